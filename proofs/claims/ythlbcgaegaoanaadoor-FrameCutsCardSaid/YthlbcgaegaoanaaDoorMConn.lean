/- codec's reader over wire's, and a packet in memory: fail, more; what the reader's calls leave. No statement of the program. codec's reader and a packet side by side; the reader's calls over both. No statement of the program. codec's reader reads a Connect's fields. No statement of the program. what codec's reader reads behind a length, and the laws its walk asks. No statement of the program. -/
import Derived.Test.YthlbcgaegaoanaaDoorMRdr
import Derived.Deep.DeepCutAuto
import Derived.Deep.MidRow
import Derived.Deep.WholeRow
import Derived.Deep.RegionLaw
namespace Go.Proofs.YthlbcgaegaoanaaDoor.Cr
open Go Go.RowKit Go.Proofs.YthlbcgaegaoanaaDoorW.PrintWords Go.Proofs.YthlbcgaegaoanaaDoorW.PrintLast Go.Proofs.YthlbcgaegaoanaaDoorW.PrintMore Go.Proofs.YthlbcgaegaoanaaDoor.Kinds Go.Proofs.YthlbcgaegaoanaaDoor.Utf Go.Proofs.YthlbcgaegaoanaaDoor.Chk Go.Proofs.YthlbcgaegaoanaaDoor.Rdr
set_option linter.unusedVariables false
set_option linter.unusedSimpArgs false
structure CrIs (w : World) (base C B : Nat) (l : List Int) (a : Int) (f : Option (Int × Int)) (n : Int) (bad : Option (Int × Int)) : Prop where
  rd : RdIs w base B l a f
  ex : ∃ ev, w.heap[C]? = some (.cells #[.pointer (some ⟨B, 0, none⟩), .int .i64 n, ev] 73 (0, 0)) ∧ FV w base ev bad
  ge : base ≤ C
theorem CrIs.lt {w : World} {base C B : Nat} {l : List Int} {a n : Int} {f bad : Option (Int × Int)} (h : CrIs w base C B l a f n bad) : C < w.heap.size := by
  obtain ⟨ev, h1, _⟩ := h.ex
  exact blk_lt h1
theorem CrIs.fr {w w1 : World} {base C B : Nat} {l : List Int} {a n : Int} {f bad : Option (Int × Int)} {ok : Nat → Prop} (h : CrIs w base C B l a f n bad) (hf : Fr ok w w1) (hok : ∀ k, k < w.heap.size → ok k → ∃ cells t, w.heap[k]? = some (.cells cells t (0, 0)) ∧ t ≠ 5 ∧ t ≠ 92 ∧ t ≠ 61 ∧ t ≠ 73) : CrIs w1 base C B l a f n bad := by
  obtain ⟨ev, h1, h2⟩ := h.ex
  refine ⟨h.rd.fr hf (fun k hk e => ?_), ⟨ev, (hf.block C (blk_lt h1) fun e => ?_).trans h1, h2.fr hf (fun k hk e => ?_)⟩, h.ge⟩
  · obtain ⟨cells, t, hc, a1, a2, a3, _⟩ := hok k hk e; exact ⟨cells, t, hc, a1, a2, a3⟩
  · obtain ⟨cells, t, hc, _, _, _, ht⟩ := hok C (blk_lt h1) e
    rw [h1] at hc; injection hc with hc; injection hc with _ hc; exact ht hc.symm
  · obtain ⟨cells, t, hc, _, _, a3, _⟩ := hok k hk e; exact ⟨cells, t, hc, a3⟩
theorem CrIs.below {w w1 : World} {base C B : Nat} {l : List Int} {a n : Int} {f bad : Option (Int × Int)} (h : CrIs w base C B l a f n bad) (hb : Below w.heap.size w w1) : CrIs w1 base C B l a f n bad :=
  h.fr (Fr.of_below (fun _ => False) hb) (fun _ _ e => e.elim)
theorem CrIs.step {w w1 : World} {base C B : Nat} {l : List Int} {a a1 n : Int} {f f1 bad : Option (Int × Int)} (h : CrIs w base C B l a f n bad) (h1 : RdIs w1 base B l a1 f1) (hf : Fr (fun k => k = B) w w1) : CrIs w1 base C B l a1 f1 n bad := by
  obtain ⟨ev, g1, g2⟩ := h.ex
  obtain ⟨cells, hB⟩ := h.rd.self
  refine ⟨h1, ⟨ev, (hf.block C (blk_lt g1) fun e => ?_).trans g1, g2.fr hf (fun k hk e => ⟨cells, 92, e ▸ hB, by decide⟩)⟩, h.ge⟩
  subst e
  rw [g1] at hB; injection hB with hB; injection hB with _ hB; exact absurd hB (by decide)
theorem CrIs.cells {w : World} {base C B : Nat} {l : List Int} {a n : Int} {f bad : Option (Int × Int)} (h : CrIs w base C B l a f n bad) : ∃ ev, w.cell? ⟨C, 0, none⟩ = some (.pointer (some ⟨B, 0, none⟩)) ∧ w.cell? ⟨C, 1, none⟩ = some (.int .i64 n) ∧ w.cell? ⟨C, 2, none⟩ = some ev ∧ (∀ j, w.frozen? ⟨C, j, none⟩ = false) ∧ FV w base ev bad := by
  obtain ⟨ev, h1, h2⟩ := h.ex
  exact ⟨ev, blk_cell h1 0, blk_cell h1 1, blk_cell h1 2, fun j => blk_frozen h1 j, h2⟩
theorem CrIs.setBad {w : World} {base C B : Nat} {l : List Int} {a n : Int} {f bad : Option (Int × Int)} (h : CrIs w base C B l a f n bad) {u : Value} {b2 : Option (Int × Int)} (h2 : FV w base u b2) : CrIs (w.setCell ⟨C, 2, none⟩ u) base C B l a f n b2 := by
  obtain ⟨ev, g1, g2⟩ := h.ex
  have hf : Fr (fun k => k = C) w (w.setCell ⟨C, 2, none⟩ u) := (Fr.refl (fun k => k = C) w).setCell (p := ⟨C, 2, none⟩) (fun _ => rfl) u
  refine ⟨h.rd.fr hf (fun k hk e => ⟨_, 73, e ▸ g1, by decide, by decide, by decide⟩), ⟨u, blk_set g1 2 u, h2.fr hf (fun k hk e => ⟨_, 73, e ▸ g1, by decide⟩)⟩, h.ge⟩
def cFail (p c : Int) (f bad : Option (Int × Int)) : Option (Int × Int) := if bad.isNone && f.isNone then some (p, c) else bad
theorem fail_bad {w : World} {base C B : Nat} {l : List Int} {a n p c : Int} {f : Option (Int × Int)} {b : Int × Int} (h : CrIs w base C B l a f n (some b)) :
    Calls Tryd.prog 31 #[.pointer (some ⟨C, 0, none⟩), .int .i64 p, .int .i64 c] w fun e w' => e = .returned (.tuple #[]) ∧ w = w' := by
  obtain ⟨ev, c0, c1, c2, cf, ⟨F, rfl, hF, hbF⟩⟩ := h.cells
  clear h hF
  go_enter Tryd.func31, Tryd.ntmps31
  go_wp2
  go_end0
  exact ⟨rfl, rfl⟩
theorem fail_flt {w : World} {base C B : Nat} {l : List Int} {a n p c : Int} {q : Int × Int} (h : CrIs w base C B l a (some q) n none) :
    Calls Tryd.prog 31 #[.pointer (some ⟨C, 0, none⟩), .int .i64 p, .int .i64 c] w fun e w' => e = .returned (.tuple #[]) ∧ w' = w.alloc (.cells #[.int .i64 q.1, .int .i64 q.2] 61) := by
  obtain ⟨ev, c0, c1, c2, cf, rfl⟩ := h.cells
  have HH := Aside0.mk h.rd
  clear h
  have hq : ∀ (G : Nat) (w : World), (binOp .eql 45 (.iface 50 (.pointer (some ⟨G, 0, none⟩))) .nilIface).run Tryd.prog w = .ok (.bool false) w := fun _ _ => by kernel_rfl
  go_enter Tryd.func31, Tryd.ntmps31
  go_wp2_with (go_at_call 21; refine (err_some HH.out).mono ?_; rintro e w1 ⟨rfl, rfl⟩)
  go_end0
  exact ⟨rfl, rfl⟩
theorem fail_new {w : World} {base C B : Nat} {l : List Int} {a n p c : Int} (h : CrIs w base C B l a none n none) :
    Calls Tryd.prog 31 #[.pointer (some ⟨C, 0, none⟩), .int .i64 p, .int .i64 c] w fun e w' => e = .returned (.tuple #[]) ∧ CrIs w' base C B l a none n (some (p, c)) ∧ Fr (fun k => k = C) w w' := by
  obtain ⟨ev, c0, c1, c2, cf, rfl⟩ := h.cells
  have HH := Aside0.mk h
  have hlt := h.lt
  have hq : ∀ (w : World), (binOp .eql 45 .nilIface .nilIface).run Tryd.prog w = .ok (.bool true) w := fun _ => by kernel_rfl
  have z2 : (w.alloc (.cells #[.int .i64 p, .int .i64 c] 61)).cell? ⟨C, 2, none⟩ = some (.pointer none) := (World.cell?_alloc_past _ _ _ hlt).trans c2
  have zf : (w.alloc (.cells #[.int .i64 p, .int .i64 c] 61)).frozen? ⟨C, 2, none⟩ = false := by rw [World.frozen?_alloc_old _ _ _ (Nat.ne_of_lt hlt)]; exact cf 2
  clear h
  go_enter Tryd.func31, Tryd.ntmps31
  go_wp2_with (go_at_call 21; refine (err_nil HH.out.rd).mono ?_; rintro e w1 ⟨rfl, rfl⟩)
  go_end0
  refine ⟨rfl, ?_, ?_⟩
  · have h2 := HH.out.below (below_alloc (Below.refl w.heap.size w) (.cells #[.int .i64 p, .int .i64 c] 61))
    have h3 := h2.setBad (u := .pointer (some ⟨w.heap.size, 0, none⟩)) (b2 := some (p, c)) ⟨w.heap.size, rfl, heap_alloc_new w (.cells #[.int .i64 p, .int .i64 c] 61), by have := HH.out.ge; omega⟩
    rw [World.setCell_alloc_past _ _ _ _ hlt] at h3
    exact h3
  · exact ((Fr.refl (fun k => k = C) w).setCell (fun _ => rfl) _).alloc _
theorem fail_any {w : World} {base C B : Nat} {l : List Int} {a n : Int} {f bad : Option (Int × Int)} (h : CrIs w base C B l a f n bad) (p c : Int) :
    Calls Tryd.prog 31 #[.pointer (some ⟨C, 0, none⟩), .int .i64 p, .int .i64 c] w fun e w' => e = .returned (.tuple #[]) ∧ CrIs w' base C B l a f n (cFail p c f bad) ∧ Fr (fun k => k = C) w w' := by
  cases bad with
  | some b => exact (fail_bad h).mono fun e w' ⟨h1, h2⟩ => by subst h2; exact ⟨h1, h, Fr.refl _ _⟩
  | none =>
    cases f with
    | some q => exact (fail_flt h).mono fun e w' ⟨h1, h2⟩ => by subst h2; exact ⟨h1, h.below (below_alloc (Below.refl _ _) _), (Fr.refl _ _).alloc _⟩
    | none => exact fail_new h
def cMore (a : Int) (f : Option (Int × Int)) (n : Int) (bad : Option (Int × Int)) : Bool := bad.isNone && f.isNone && decide (a < n)
set_option maxRecDepth 100000 in
theorem more_bad {w : World} {base C B : Nat} {l : List Int} {a n : Int} {f : Option (Int × Int)} {b : Int × Int} (h : CrIs w base C B l a f n (some b)) :
    Calls Tryd.prog 36 #[.pointer (some ⟨C, 0, none⟩)] w fun e w' => e = .returned (.bool false) ∧ Below w.heap.size w w' := by
  obtain ⟨ev, c0, c1, c2, cf, ⟨F, rfl, hF, hbF⟩⟩ := h.cells
  clear h hF
  go_enter Tryd.func36, Tryd.ntmps36
  go_upto_region 1 with fail
  refine start_ (n := 26) (S := fun w' => w'.cell? ⟨C, 2, none⟩ = some (.pointer (some ⟨F, 0, none⟩))) (ds := []) #[false, false, false, false, false, false, false, false, false, false, false, false, false, false, false, false, false, false, false, false, false, false, false, false, false, false] (by kernel_rfl) rfl rfl (c2) (fun hHeld => ?_)
  refine pure_ (i := 0) (N := some 3) (v := ?_) (a' := ?_) #[true, false, false, false, false, false, false, false, false, false, false, false, false, false, false, false, false, false, false, false, false, false, false, false, false, false] rfl rfl (by kernel_rfl) (fun _ _ _ h => h) (Or.inl ⟨by rfl, ?_⟩) ?_ ?_
  rotate_left
  · intro w'
    go_simp
    with_reducible rfl
  rotate_left
  · simp only [Act.put, List.setIfInBounds_toArray, List.set_cons_zero, List.set_cons_succ, i64_w, i32_w]
    rfl
  refine pure_ (i := 1) (N := some 4) (v := ?_) (a' := ?_) #[true, true, false, false, false, false, false, false, false, false, false, false, false, false, false, false, false, false, false, false, false, false, false, false, false, false] rfl rfl (by kernel_rfl) (fun _ _ _ h => h) (Or.inl ⟨by rfl, ?_⟩) ?_ ?_
  rotate_left
  · intro w'
    go_simp
    with_reducible rfl
  rotate_left
  · simp only [Act.put, List.setIfInBounds_toArray, List.set_cons_zero, List.set_cons_succ, i64_w, i32_w]
    rfl
  refine pure_ (i := 2) (N := some 5) (v := ?_) (a' := ?_) #[true, true, true, false, false, false, false, false, false, false, false, false, false, false, false, false, false, false, false, false, false, false, false, false, false, false] rfl rfl (by kernel_rfl) (fun _ _ _ h => h) (Or.inl ⟨by rfl, ?_⟩) ?_ ?_
  rotate_left
  · intro w'
    go_simp
    with_reducible rfl
  rotate_left
  · simp only [Act.put, List.setIfInBounds_toArray, List.set_cons_zero, List.set_cons_succ, i64_w, i32_w]
    rfl
  refine take_ (i := 3) (N := some 6) (v := ?_) (a' := ?_) #[true, true, true, true, false, false, false, false, false, false, false, false, false, false, false, false, false, false, false, false, false, false, false, false, false, false] rfl rfl (by kernel_rfl) (fun _ _ _ h => h) (Or.inl ⟨by rfl, ?_⟩) hHeld ?_ ?_
  rotate_left
  · intro w' s0
    go_simp
    with_reducible rfl
  rotate_left
  · simp only [Act.put, List.setIfInBounds_toArray, List.set_cons_zero, List.set_cons_succ, i64_w, i32_w]
    rfl
  refine pure_ (i := 4) (N := some 7) (v := ?_) (a' := ?_) #[true, true, true, true, true, false, false, false, false, false, false, false, false, false, false, false, false, false, false, false, false, false, false, false, false, false] rfl rfl (by kernel_rfl) (fun _ _ _ h => h) (Or.inl ⟨by rfl, ?_⟩) ?_ ?_
  rotate_left
  · intro w'
    go_simp
    with_reducible rfl
  rotate_left
  · simp only [Act.put, List.setIfInBounds_toArray, List.set_cons_zero, List.set_cons_succ, i64_w, i32_w]
    rfl
  refine pure_ (i := 5) (N := some 8) (v := ?_) (a' := ?_) #[true, true, true, true, true, true, false, false, false, false, false, false, false, false, false, false, false, false, false, false, false, false, false, false, false, false] rfl rfl (by kernel_rfl) (fun _ _ _ h => h) (Or.inl ⟨by rfl, ?_⟩) ?_ ?_
  rotate_left
  · intro w'
    go_simp
    with_reducible rfl
  rotate_left
  · simp only [Act.put, List.setIfInBounds_toArray, List.set_cons_zero, List.set_cons_succ, i64_w, i32_w]
    rfl
  refine pure_ (i := 6) (N := some 9) (v := undef) (a' := ?_) #[true, true, true, true, true, true, true, false, false, false, false, false, false, false, false, false, false, false, false, false, false, false, false, false, false, false] rfl rfl (by kernel_rfl) (fun _ _ _ h => h) (Or.inr ⟨by rfl, rfl⟩) ?_ ?_
  rotate_left
  · simp only [Act.put, List.setIfInBounds_toArray, List.set_cons_zero, List.set_cons_succ, i64_w, i32_w]
    rfl
  refine pure_ (i := 7) (N := some 10) (v := undef) (a' := ?_) #[true, true, true, true, true, true, true, true, false, false, false, false, false, false, false, false, false, false, false, false, false, false, false, false, false, false] rfl rfl (by kernel_rfl) (fun _ _ _ h => h) (Or.inr ⟨by rfl, rfl⟩) ?_ ?_
  rotate_left
  · simp only [Act.put, List.setIfInBounds_toArray, List.set_cons_zero, List.set_cons_succ, i64_w, i32_w]
    rfl
  refine pure_ (i := 8) (N := some 11) (v := undef) (a' := ?_) #[true, true, true, true, true, true, true, true, true, false, false, false, false, false, false, false, false, false, false, false, false, false, false, false, false, false] rfl rfl (by kernel_rfl) (fun _ _ _ h => h) (Or.inr ⟨by rfl, rfl⟩) ?_ ?_
  rotate_left
  · simp only [Act.put, List.setIfInBounds_toArray, List.set_cons_zero, List.set_cons_succ, i64_w, i32_w]
    rfl
  refine pure_ (i := 9) (N := some 12) (v := undef) (a' := ?_) #[true, true, true, true, true, true, true, true, true, true, false, false, false, false, false, false, false, false, false, false, false, false, false, false, false, false] rfl rfl (by kernel_rfl) (fun _ _ _ h => h) (Or.inr ⟨by rfl, rfl⟩) ?_ ?_
  rotate_left
  · simp only [Act.put, List.setIfInBounds_toArray, List.set_cons_zero, List.set_cons_succ, i64_w, i32_w]
    rfl
  refine pure_ (i := 10) (N := some 13) (v := undef) (a' := ?_) #[true, true, true, true, true, true, true, true, true, true, true, false, false, false, false, false, false, false, false, false, false, false, false, false, false, false] rfl rfl (by kernel_rfl) (fun _ _ _ h => h) (Or.inr ⟨by rfl, rfl⟩) ?_ ?_
  rotate_left
  · simp only [Act.put, List.setIfInBounds_toArray, List.set_cons_zero, List.set_cons_succ, i64_w, i32_w]
    rfl
  refine pure_ (i := 11) (N := some 14) (v := undef) (a' := ?_) #[true, true, true, true, true, true, true, true, true, true, true, true, false, false, false, false, false, false, false, false, false, false, false, false, false, false] rfl rfl (by kernel_rfl) (fun _ _ _ h => h) (Or.inr ⟨by rfl, rfl⟩) ?_ ?_
  rotate_left
  · simp only [Act.put, List.setIfInBounds_toArray, List.set_cons_zero, List.set_cons_succ, i64_w, i32_w]
    rfl
  refine pure_ (i := 12) (N := some 15) (v := ?_) (a' := ?_) #[true, true, true, true, true, true, true, true, true, true, true, true, true, false, false, false, false, false, false, false, false, false, false, false, false, false] rfl rfl (by kernel_rfl) (fun _ _ _ h => h) (Or.inl ⟨by rfl, ?_⟩) ?_ ?_
  rotate_left
  · intro w'
    go_simp
    with_reducible rfl
  rotate_left
  · simp only [Act.put, List.setIfInBounds_toArray, List.set_cons_zero, List.set_cons_succ, i64_w, i32_w]
    rfl
  refine pure_ (i := 13) (N := some 16) (v := ?_) (a' := ?_) #[true, true, true, true, true, true, true, true, true, true, true, true, true, true, false, false, false, false, false, false, false, false, false, false, false, false] rfl rfl (by kernel_rfl) (fun _ _ _ h => h) (Or.inl ⟨by rfl, ?_⟩) ?_ ?_
  rotate_left
  · intro w'
    go_simp
    with_reducible rfl
  rotate_left
  · simp only [Act.put, List.setIfInBounds_toArray, List.set_cons_zero, List.set_cons_succ, i64_w, i32_w]
    rfl
  refine pure_ (i := 14) (N := some 17) (v := undef) (a' := ?_) #[true, true, true, true, true, true, true, true, true, true, true, true, true, true, true, false, false, false, false, false, false, false, false, false, false, false] rfl rfl (by kernel_rfl) (fun _ _ _ h => h) (Or.inr ⟨by rfl, rfl⟩) ?_ ?_
  rotate_left
  · simp only [Act.put, List.setIfInBounds_toArray, List.set_cons_zero, List.set_cons_succ, i64_w, i32_w]
    rfl
  refine pure_ (i := 15) (N := some 18) (v := undef) (a' := ?_) #[true, true, true, true, true, true, true, true, true, true, true, true, true, true, true, true, false, false, false, false, false, false, false, false, false, false] rfl rfl (by kernel_rfl) (fun _ _ _ h => h) (Or.inr ⟨by rfl, rfl⟩) ?_ ?_
  rotate_left
  · simp only [Act.put, List.setIfInBounds_toArray, List.set_cons_zero, List.set_cons_succ, i64_w, i32_w]
    rfl
  refine pure_ (i := 16) (N := some 19) (v := undef) (a' := ?_) #[true, true, true, true, true, true, true, true, true, true, true, true, true, true, true, true, true, false, false, false, false, false, false, false, false, false] rfl rfl (by kernel_rfl) (fun _ _ _ h => h) (Or.inr ⟨by rfl, rfl⟩) ?_ ?_
  rotate_left
  · simp only [Act.put, List.setIfInBounds_toArray, List.set_cons_zero, List.set_cons_succ, i64_w, i32_w]
    rfl
  refine pure_ (i := 17) (N := some 20) (v := undef) (a' := ?_) #[true, true, true, true, true, true, true, true, true, true, true, true, true, true, true, true, true, true, false, false, false, false, false, false, false, false] rfl rfl (by kernel_rfl) (fun _ _ _ h => h) (Or.inr ⟨by rfl, rfl⟩) ?_ ?_
  rotate_left
  · simp only [Act.put, List.setIfInBounds_toArray, List.set_cons_zero, List.set_cons_succ, i64_w, i32_w]
    rfl
  refine pure_ (i := 18) (N := some 21) (v := undef) (a' := ?_) #[true, true, true, true, true, true, true, true, true, true, true, true, true, true, true, true, true, true, true, false, false, false, false, false, false, false] rfl rfl (by kernel_rfl) (fun _ _ _ h => h) (Or.inr ⟨by rfl, rfl⟩) ?_ ?_
  rotate_left
  · simp only [Act.put, List.setIfInBounds_toArray, List.set_cons_zero, List.set_cons_succ, i64_w, i32_w]
    rfl
  refine pure_ (i := 19) (N := some 22) (v := undef) (a' := ?_) #[true, true, true, true, true, true, true, true, true, true, true, true, true, true, true, true, true, true, true, true, false, false, false, false, false, false] rfl rfl (by kernel_rfl) (fun _ _ _ h => h) (Or.inr ⟨by rfl, rfl⟩) ?_ ?_
  rotate_left
  · simp only [Act.put, List.setIfInBounds_toArray, List.set_cons_zero, List.set_cons_succ, i64_w, i32_w]
    rfl
  refine pure_ (i := 20) (N := some 23) (v := undef) (a' := ?_) #[true, true, true, true, true, true, true, true, true, true, true, true, true, true, true, true, true, true, true, true, true, false, false, false, false, false] rfl rfl (by kernel_rfl) (fun _ _ _ h => h) (Or.inr ⟨by rfl, rfl⟩) ?_ ?_
  rotate_left
  · simp only [Act.put, List.setIfInBounds_toArray, List.set_cons_zero, List.set_cons_succ, i64_w, i32_w]
    rfl
  refine pure_ (i := 21) (N := some 24) (v := undef) (a' := ?_) #[true, true, true, true, true, true, true, true, true, true, true, true, true, true, true, true, true, true, true, true, true, true, false, false, false, false] rfl rfl (by kernel_rfl) (fun _ _ _ h => h) (Or.inr ⟨by rfl, rfl⟩) ?_ ?_
  rotate_left
  · simp only [Act.put, List.setIfInBounds_toArray, List.set_cons_zero, List.set_cons_succ, i64_w, i32_w]
    rfl
  refine pure_ (i := 22) (N := some 25) (v := undef) (a' := ?_) #[true, true, true, true, true, true, true, true, true, true, true, true, true, true, true, true, true, true, true, true, true, true, true, false, false, false] rfl rfl (by kernel_rfl) (fun _ _ _ h => h) (Or.inr ⟨by rfl, rfl⟩) ?_ ?_
  rotate_left
  · simp only [Act.put, List.setIfInBounds_toArray, List.set_cons_zero, List.set_cons_succ, i64_w, i32_w]
    rfl
  refine pure_ (i := 23) (N := some 26) (v := undef) (a' := ?_) #[true, true, true, true, true, true, true, true, true, true, true, true, true, true, true, true, true, true, true, true, true, true, true, true, false, false] rfl rfl (by kernel_rfl) (fun _ _ _ h => h) (Or.inr ⟨by rfl, rfl⟩) ?_ ?_
  rotate_left
  · simp only [Act.put, List.setIfInBounds_toArray, List.set_cons_zero, List.set_cons_succ, i64_w, i32_w]
    rfl
  refine pure_ (i := 24) (N := some 27) (v := ?_) (a' := ?_) #[true, true, true, true, true, true, true, true, true, true, true, true, true, true, true, true, true, true, true, true, true, true, true, true, true, false] rfl rfl (by kernel_rfl) (fun _ _ _ h => h) (Or.inl ⟨by rfl, ?_⟩) ?_ ?_
  rotate_left
  · intro w'
    go_simp
    with_reducible rfl
  rotate_left
  · simp only [Act.put, List.setIfInBounds_toArray, List.set_cons_zero, List.set_cons_succ, i64_w, i32_w]
    rfl
  refine pure_ (i := 25) (N := some 2) (v := ?_) (a' := ?_) #[true, true, true, true, true, true, true, true, true, true, true, true, true, true, true, true, true, true, true, true, true, true, true, true, true, true] rfl rfl (by kernel_rfl) (fun _ _ _ h => h) (Or.inl ⟨by rfl, ?_⟩) ?_ ?_
  rotate_left
  · intro w'
    go_simp
    with_reducible rfl
  rotate_left
  · simp only [Act.put, List.setIfInBounds_toArray, List.set_cons_zero, List.set_cons_succ, i64_w, i32_w]
    rfl
  refine done_ (by kernel_rfl) ?_
  go_wp2
  go_ret
  exact ⟨rfl, below_drew1 (Below.refl _ _)⟩
set_option maxRecDepth 100000 in
theorem more_flt {w : World} {base C B : Nat} {l : List Int} {a n : Int} {q : Int × Int} (h : CrIs w base C B l a (some q) n none) :
    Calls Tryd.prog 36 #[.pointer (some ⟨C, 0, none⟩)] w fun e w' => e = .returned (.bool false) ∧ Below w.heap.size w w' := by
  obtain ⟨ev, c0, c1, c2, cf, rfl⟩ := h.cells
  have HD := Aside0.mk (h.below (w1 := w.drew) (below_drew1 (Below.refl _ _)))
  have hq : ∀ (G : Nat) (w : World), (binOp .eql 45 (.iface 50 (.pointer (some ⟨G, 0, none⟩))) .nilIface).run Tryd.prog w = .ok (.bool false) w := fun _ _ => by kernel_rfl
  clear h
  go_enter Tryd.func36, Tryd.ntmps36
  go_upto_region 1 with fail
  refine start_ (n := 26) (S := fun w' => w'.cell? ⟨C, 2, none⟩ = some (.pointer none) ∧ w'.cell? ⟨C, 0, none⟩ = some (.pointer (some ⟨B, 0, none⟩))) (ds := [10]) #[false, false, false, false, false, false, false, false, false, false, false, false, false, false, false, false, false, false, false, false, false, false, false, false, false, false] (by kernel_rfl) rfl rfl ⟨c2, c0⟩ (fun hHeld => ?_)
  refine pure_ (i := 0) (N := some 3) (v := ?_) (a' := ?_) #[true, false, false, false, false, false, false, false, false, false, false, false, false, false, false, false, false, false, false, false, false, false, false, false, false, false] rfl rfl (by kernel_rfl) (fun _ _ _ h => h) (Or.inl ⟨by rfl, ?_⟩) ?_ ?_
  rotate_left
  · intro w'
    go_simp
    with_reducible rfl
  rotate_left
  · simp only [Act.put, List.setIfInBounds_toArray, List.set_cons_zero, List.set_cons_succ, i64_w, i32_w]
    rfl
  refine pure_ (i := 1) (N := some 4) (v := ?_) (a' := ?_) #[true, true, false, false, false, false, false, false, false, false, false, false, false, false, false, false, false, false, false, false, false, false, false, false, false, false] rfl rfl (by kernel_rfl) (fun _ _ _ h => h) (Or.inl ⟨by rfl, ?_⟩) ?_ ?_
  rotate_left
  · intro w'
    go_simp
    with_reducible rfl
  rotate_left
  · simp only [Act.put, List.setIfInBounds_toArray, List.set_cons_zero, List.set_cons_succ, i64_w, i32_w]
    rfl
  refine pure_ (i := 2) (N := some 5) (v := ?_) (a' := ?_) #[true, true, true, false, false, false, false, false, false, false, false, false, false, false, false, false, false, false, false, false, false, false, false, false, false, false] rfl rfl (by kernel_rfl) (fun _ _ _ h => h) (Or.inl ⟨by rfl, ?_⟩) ?_ ?_
  rotate_left
  · intro w'
    go_simp
    with_reducible rfl
  rotate_left
  · simp only [Act.put, List.setIfInBounds_toArray, List.set_cons_zero, List.set_cons_succ, i64_w, i32_w]
    rfl
  refine take_ (i := 3) (N := some 6) (v := ?_) (a' := ?_) #[true, true, true, true, false, false, false, false, false, false, false, false, false, false, false, false, false, false, false, false, false, false, false, false, false, false] rfl rfl (by kernel_rfl) (fun _ _ _ h => h) (Or.inl ⟨by rfl, ?_⟩) hHeld ?_ ?_
  rotate_left
  · rintro w' ⟨s0, s1⟩
    go_simp
    with_reducible rfl
  rotate_left
  · simp only [Act.put, List.setIfInBounds_toArray, List.set_cons_zero, List.set_cons_succ, i64_w, i32_w]
    rfl
  refine pure_ (i := 4) (N := some 7) (v := ?_) (a' := ?_) #[true, true, true, true, true, false, false, false, false, false, false, false, false, false, false, false, false, false, false, false, false, false, false, false, false, false] rfl rfl (by kernel_rfl) (fun _ _ _ h => h) (Or.inl ⟨by rfl, ?_⟩) ?_ ?_
  rotate_left
  · intro w'
    go_simp
    with_reducible rfl
  rotate_left
  · simp only [Act.put, List.setIfInBounds_toArray, List.set_cons_zero, List.set_cons_succ, i64_w, i32_w]
    rfl
  refine pure_ (i := 5) (N := some 8) (v := ?_) (a' := ?_) #[true, true, true, true, true, true, false, false, false, false, false, false, false, false, false, false, false, false, false, false, false, false, false, false, false, false] rfl rfl (by kernel_rfl) (fun _ _ _ h => h) (Or.inl ⟨by rfl, ?_⟩) ?_ ?_
  rotate_left
  · intro w'
    go_simp
    with_reducible rfl
  rotate_left
  · simp only [Act.put, List.setIfInBounds_toArray, List.set_cons_zero, List.set_cons_succ, i64_w, i32_w]
    rfl
  refine pure_ (i := 6) (N := some 9) (v := ?_) (a' := ?_) #[true, true, true, true, true, true, true, false, false, false, false, false, false, false, false, false, false, false, false, false, false, false, false, false, false, false] rfl rfl (by kernel_rfl) (fun _ _ _ h => h) (Or.inl ⟨by rfl, ?_⟩) ?_ ?_
  rotate_left
  · intro w'
    go_simp
    with_reducible rfl
  rotate_left
  · simp only [Act.put, List.setIfInBounds_toArray, List.set_cons_zero, List.set_cons_succ, i64_w, i32_w]
    rfl
  refine pure_ (i := 7) (N := some 10) (v := ?_) (a' := ?_) #[true, true, true, true, true, true, true, true, false, false, false, false, false, false, false, false, false, false, false, false, false, false, false, false, false, false] rfl rfl (by kernel_rfl) (fun _ _ _ h => h) (Or.inl ⟨by rfl, ?_⟩) ?_ ?_
  rotate_left
  · intro w'
    go_simp
    with_reducible rfl
  rotate_left
  · simp only [Act.put, List.setIfInBounds_toArray, List.set_cons_zero, List.set_cons_succ, i64_w, i32_w]
    rfl
  refine pure_ (i := 8) (N := some 11) (v := ?_) (a' := ?_) #[true, true, true, true, true, true, true, true, true, false, false, false, false, false, false, false, false, false, false, false, false, false, false, false, false, false] rfl rfl (by kernel_rfl) (fun _ _ _ h => h) (Or.inl ⟨by rfl, ?_⟩) ?_ ?_
  rotate_left
  · intro w'
    go_simp
    with_reducible rfl
  rotate_left
  · simp only [Act.put, List.setIfInBounds_toArray, List.set_cons_zero, List.set_cons_succ, i64_w, i32_w]
    rfl
  refine take_ (i := 9) (N := some 12) (v := ?_) (a' := ?_) #[true, true, true, true, true, true, true, true, true, true, false, false, false, false, false, false, false, false, false, false, false, false, false, false, false, false] rfl rfl (by kernel_rfl) (fun _ _ _ h => h) (Or.inl ⟨by rfl, ?_⟩) hHeld ?_ ?_
  rotate_left
  · rintro w' ⟨s0, s1⟩
    go_simp
    with_reducible rfl
  rotate_left
  · simp only [Act.put, List.setIfInBounds_toArray, List.set_cons_zero, List.set_cons_succ, i64_w, i32_w]
    rfl
  refine last_ (i := 10) (N := some 13) #[true, true, true, true, true, true, true, true, true, true, true, false, false, false, false, false, false, false, false, false, false, false, false, false, false, false] rfl rfl (by kernel_rfl) (by decide) (fun K hK => ?_)
  refine goes_ Tryd.func21 (by kernel_rfl) rfl #[.pointer (some ⟨B, 0, none⟩)] (by rfl) rfl rfl (by simp only [List.map_toArray, List.map_cons, List.map_nil]; rfl) ?_
  with_reducible refine (err_some HD.out.rd).mono ?_
  rintro e w3 ⟨rfl, hw3⟩
  refine ⟨_, rfl, ?_⟩
  refine hK.out _ _ ?_
  clear hK K
  refine norm_ (a' := ?_) ?_ ?_
  rotate_left
  · show Act.put _ (some 13) _ = _
    simp only [Act.put, List.setIfInBounds_toArray, List.set_cons_zero, List.set_cons_succ, i64_w, i32_w]
    rfl
  refine pure_ (i := 11) (N := some 14) (v := ?_) (a' := ?_) #[true, true, true, true, true, true, true, true, true, true, true, true, false, false, false, false, false, false, false, false, false, false, false, false, false, false] rfl rfl (by kernel_rfl) (fun _ _ _ h => h) (Or.inl ⟨by rfl, ?_⟩) ?_ ?_
  rotate_left
  · intro w'
    go_simp
    with_reducible rfl
  rotate_left
  · simp only [Act.put, List.setIfInBounds_toArray, List.set_cons_zero, List.set_cons_succ, i64_w, i32_w]
    rfl
  refine pure_ (i := 12) (N := some 15) (v := ?_) (a' := ?_) #[true, true, true, true, true, true, true, true, true, true, true, true, true, false, false, false, false, false, false, false, false, false, false, false, false, false] rfl rfl (by kernel_rfl) (fun _ _ _ h => h) (Or.inl ⟨by rfl, ?_⟩) ?_ ?_
  rotate_left
  · intro w'
    go_simp
    with_reducible rfl
  rotate_left
  · simp only [Act.put, List.setIfInBounds_toArray, List.set_cons_zero, List.set_cons_succ, i64_w, i32_w]
    rfl
  refine pure_ (i := 13) (N := some 16) (v := ?_) (a' := ?_) #[true, true, true, true, true, true, true, true, true, true, true, true, true, true, false, false, false, false, false, false, false, false, false, false, false, false] rfl rfl (by kernel_rfl) (fun _ _ _ h => h) (Or.inl ⟨by rfl, ?_⟩) ?_ ?_
  rotate_left
  · intro w'
    go_simp
    with_reducible rfl
  rotate_left
  · simp only [Act.put, List.setIfInBounds_toArray, List.set_cons_zero, List.set_cons_succ, i64_w, i32_w]
    rfl
  refine pure_ (i := 14) (N := some 17) (v := undef) (a' := ?_) #[true, true, true, true, true, true, true, true, true, true, true, true, true, true, true, false, false, false, false, false, false, false, false, false, false, false] rfl rfl (by kernel_rfl) (fun _ _ _ h => h) (Or.inr ⟨by rfl, rfl⟩) ?_ ?_
  rotate_left
  · simp only [Act.put, List.setIfInBounds_toArray, List.set_cons_zero, List.set_cons_succ, i64_w, i32_w]
    rfl
  refine pure_ (i := 15) (N := some 18) (v := undef) (a' := ?_) #[true, true, true, true, true, true, true, true, true, true, true, true, true, true, true, true, false, false, false, false, false, false, false, false, false, false] rfl rfl (by kernel_rfl) (fun _ _ _ h => h) (Or.inr ⟨by rfl, rfl⟩) ?_ ?_
  rotate_left
  · simp only [Act.put, List.setIfInBounds_toArray, List.set_cons_zero, List.set_cons_succ, i64_w, i32_w]
    rfl
  refine pure_ (i := 16) (N := some 19) (v := undef) (a' := ?_) #[true, true, true, true, true, true, true, true, true, true, true, true, true, true, true, true, true, false, false, false, false, false, false, false, false, false] rfl rfl (by kernel_rfl) (fun _ _ _ h => h) (Or.inr ⟨by rfl, rfl⟩) ?_ ?_
  rotate_left
  · simp only [Act.put, List.setIfInBounds_toArray, List.set_cons_zero, List.set_cons_succ, i64_w, i32_w]
    rfl
  refine pure_ (i := 17) (N := some 20) (v := undef) (a' := ?_) #[true, true, true, true, true, true, true, true, true, true, true, true, true, true, true, true, true, true, false, false, false, false, false, false, false, false] rfl rfl (by kernel_rfl) (fun _ _ _ h => h) (Or.inr ⟨by rfl, rfl⟩) ?_ ?_
  rotate_left
  · simp only [Act.put, List.setIfInBounds_toArray, List.set_cons_zero, List.set_cons_succ, i64_w, i32_w]
    rfl
  refine pure_ (i := 18) (N := some 21) (v := undef) (a' := ?_) #[true, true, true, true, true, true, true, true, true, true, true, true, true, true, true, true, true, true, true, false, false, false, false, false, false, false] rfl rfl (by kernel_rfl) (fun _ _ _ h => h) (Or.inr ⟨by rfl, rfl⟩) ?_ ?_
  rotate_left
  · simp only [Act.put, List.setIfInBounds_toArray, List.set_cons_zero, List.set_cons_succ, i64_w, i32_w]
    rfl
  refine pure_ (i := 19) (N := some 22) (v := undef) (a' := ?_) #[true, true, true, true, true, true, true, true, true, true, true, true, true, true, true, true, true, true, true, true, false, false, false, false, false, false] rfl rfl (by kernel_rfl) (fun _ _ _ h => h) (Or.inr ⟨by rfl, rfl⟩) ?_ ?_
  rotate_left
  · simp only [Act.put, List.setIfInBounds_toArray, List.set_cons_zero, List.set_cons_succ, i64_w, i32_w]
    rfl
  refine pure_ (i := 20) (N := some 23) (v := undef) (a' := ?_) #[true, true, true, true, true, true, true, true, true, true, true, true, true, true, true, true, true, true, true, true, true, false, false, false, false, false] rfl rfl (by kernel_rfl) (fun _ _ _ h => h) (Or.inr ⟨by rfl, rfl⟩) ?_ ?_
  rotate_left
  · simp only [Act.put, List.setIfInBounds_toArray, List.set_cons_zero, List.set_cons_succ, i64_w, i32_w]
    rfl
  refine pure_ (i := 21) (N := some 24) (v := undef) (a' := ?_) #[true, true, true, true, true, true, true, true, true, true, true, true, true, true, true, true, true, true, true, true, true, true, false, false, false, false] rfl rfl (by kernel_rfl) (fun _ _ _ h => h) (Or.inr ⟨by rfl, rfl⟩) ?_ ?_
  rotate_left
  · simp only [Act.put, List.setIfInBounds_toArray, List.set_cons_zero, List.set_cons_succ, i64_w, i32_w]
    rfl
  refine pure_ (i := 22) (N := some 25) (v := undef) (a' := ?_) #[true, true, true, true, true, true, true, true, true, true, true, true, true, true, true, true, true, true, true, true, true, true, true, false, false, false] rfl rfl (by kernel_rfl) (fun _ _ _ h => h) (Or.inr ⟨by rfl, rfl⟩) ?_ ?_
  rotate_left
  · simp only [Act.put, List.setIfInBounds_toArray, List.set_cons_zero, List.set_cons_succ, i64_w, i32_w]
    rfl
  refine pure_ (i := 23) (N := some 26) (v := undef) (a' := ?_) #[true, true, true, true, true, true, true, true, true, true, true, true, true, true, true, true, true, true, true, true, true, true, true, true, false, false] rfl rfl (by kernel_rfl) (fun _ _ _ h => h) (Or.inr ⟨by rfl, rfl⟩) ?_ ?_
  rotate_left
  · simp only [Act.put, List.setIfInBounds_toArray, List.set_cons_zero, List.set_cons_succ, i64_w, i32_w]
    rfl
  refine pure_ (i := 24) (N := some 27) (v := ?_) (a' := ?_) #[true, true, true, true, true, true, true, true, true, true, true, true, true, true, true, true, true, true, true, true, true, true, true, true, true, false] rfl rfl (by kernel_rfl) (fun _ _ _ h => h) (Or.inl ⟨by rfl, ?_⟩) ?_ ?_
  rotate_left
  · intro w'
    go_simp
    with_reducible rfl
  rotate_left
  · simp only [Act.put, List.setIfInBounds_toArray, List.set_cons_zero, List.set_cons_succ, i64_w, i32_w]
    rfl
  refine pure_ (i := 25) (N := some 2) (v := ?_) (a' := ?_) #[true, true, true, true, true, true, true, true, true, true, true, true, true, true, true, true, true, true, true, true, true, true, true, true, true, true] rfl rfl (by kernel_rfl) (fun _ _ _ h => h) (Or.inl ⟨by rfl, ?_⟩) ?_ ?_
  rotate_left
  · intro w'
    go_simp
    with_reducible rfl
  rotate_left
  · simp only [Act.put, List.setIfInBounds_toArray, List.set_cons_zero, List.set_cons_succ, i64_w, i32_w]
    rfl
  refine done_ (by kernel_rfl) ?_
  subst hw3
  go_wp2
  go_ret
  exact ⟨rfl, (below_drew1 (Below.refl _ _)).alloc (Nat.le_refl _) _⟩
set_option maxRecDepth 100000 in
theorem more_none {w : World} {base C B : Nat} {l : List Int} {a n : Int} (h : CrIs w base C B l a none n none) :
    Calls Tryd.prog 36 #[.pointer (some ⟨C, 0, none⟩)] w fun e w' => e = .returned (.bool (decide (a < n))) ∧ Below w.heap.size w w' := by
  obtain ⟨ev, c0, c1, c2, cf, rfl⟩ := h.cells
  have HD := Aside0.mk (h.below (w1 := w.drew) (below_drew1 (Below.refl _ _)))
  have hq : ∀ (w : World), (binOp .eql 45 .nilIface .nilIface).run Tryd.prog w = .ok (.bool true) w := fun _ => by kernel_rfl
  clear h
  go_enter Tryd.func36, Tryd.ntmps36
  go_upto_region 1 with fail
  refine start_ (n := 26) (S := fun w' => w'.cell? ⟨C, 2, none⟩ = some (.pointer none) ∧ w'.cell? ⟨C, 0, none⟩ = some (.pointer (some ⟨B, 0, none⟩)) ∧ w'.cell? ⟨C, 1, none⟩ = some (.int .i64 n)) (ds := []) #[false, false, false, false, false, false, false, false, false, false, false, false, false, false, false, false, false, false, false, false, false, false, false, false, false, false] (by kernel_rfl) rfl rfl ⟨c2, c0, c1⟩ (fun hHeld => ?_)
  refine pure_ (i := 0) (N := some 3) (v := ?_) (a' := ?_) #[true, false, false, false, false, false, false, false, false, false, false, false, false, false, false, false, false, false, false, false, false, false, false, false, false, false] rfl rfl (by kernel_rfl) (fun _ _ _ h => h) (Or.inl ⟨by rfl, ?_⟩) ?_ ?_
  rotate_left
  · intro w'
    go_simp
    with_reducible rfl
  rotate_left
  · simp only [Act.put, List.setIfInBounds_toArray, List.set_cons_zero, List.set_cons_succ, i64_w, i32_w]
    rfl
  refine pure_ (i := 1) (N := some 4) (v := ?_) (a' := ?_) #[true, true, false, false, false, false, false, false, false, false, false, false, false, false, false, false, false, false, false, false, false, false, false, false, false, false] rfl rfl (by kernel_rfl) (fun _ _ _ h => h) (Or.inl ⟨by rfl, ?_⟩) ?_ ?_
  rotate_left
  · intro w'
    go_simp
    with_reducible rfl
  rotate_left
  · simp only [Act.put, List.setIfInBounds_toArray, List.set_cons_zero, List.set_cons_succ, i64_w, i32_w]
    rfl
  refine pure_ (i := 2) (N := some 5) (v := ?_) (a' := ?_) #[true, true, true, false, false, false, false, false, false, false, false, false, false, false, false, false, false, false, false, false, false, false, false, false, false, false] rfl rfl (by kernel_rfl) (fun _ _ _ h => h) (Or.inl ⟨by rfl, ?_⟩) ?_ ?_
  rotate_left
  · intro w'
    go_simp
    with_reducible rfl
  rotate_left
  · simp only [Act.put, List.setIfInBounds_toArray, List.set_cons_zero, List.set_cons_succ, i64_w, i32_w]
    rfl
  refine take_ (i := 3) (N := some 6) (v := ?_) (a' := ?_) #[true, true, true, true, false, false, false, false, false, false, false, false, false, false, false, false, false, false, false, false, false, false, false, false, false, false] rfl rfl (by kernel_rfl) (fun _ _ _ h => h) (Or.inl ⟨by rfl, ?_⟩) hHeld ?_ ?_
  rotate_left
  · rintro w' ⟨s0, s1, s2⟩
    go_simp
    with_reducible rfl
  rotate_left
  · simp only [Act.put, List.setIfInBounds_toArray, List.set_cons_zero, List.set_cons_succ, i64_w, i32_w]
    rfl
  refine pure_ (i := 4) (N := some 7) (v := ?_) (a' := ?_) #[true, true, true, true, true, false, false, false, false, false, false, false, false, false, false, false, false, false, false, false, false, false, false, false, false, false] rfl rfl (by kernel_rfl) (fun _ _ _ h => h) (Or.inl ⟨by rfl, ?_⟩) ?_ ?_
  rotate_left
  · intro w'
    go_simp
    with_reducible rfl
  rotate_left
  · simp only [Act.put, List.setIfInBounds_toArray, List.set_cons_zero, List.set_cons_succ, i64_w, i32_w]
    rfl
  refine pure_ (i := 5) (N := some 8) (v := ?_) (a' := ?_) #[true, true, true, true, true, true, false, false, false, false, false, false, false, false, false, false, false, false, false, false, false, false, false, false, false, false] rfl rfl (by kernel_rfl) (fun _ _ _ h => h) (Or.inl ⟨by rfl, ?_⟩) ?_ ?_
  rotate_left
  · intro w'
    go_simp
    with_reducible rfl
  rotate_left
  · simp only [Act.put, List.setIfInBounds_toArray, List.set_cons_zero, List.set_cons_succ, i64_w, i32_w]
    rfl
  refine pure_ (i := 6) (N := some 9) (v := ?_) (a' := ?_) #[true, true, true, true, true, true, true, false, false, false, false, false, false, false, false, false, false, false, false, false, false, false, false, false, false, false] rfl rfl (by kernel_rfl) (fun _ _ _ h => h) (Or.inl ⟨by rfl, ?_⟩) ?_ ?_
  rotate_left
  · intro w'
    go_simp
    with_reducible rfl
  rotate_left
  · simp only [Act.put, List.setIfInBounds_toArray, List.set_cons_zero, List.set_cons_succ, i64_w, i32_w]
    rfl
  refine pure_ (i := 7) (N := some 10) (v := ?_) (a' := ?_) #[true, true, true, true, true, true, true, true, false, false, false, false, false, false, false, false, false, false, false, false, false, false, false, false, false, false] rfl rfl (by kernel_rfl) (fun _ _ _ h => h) (Or.inl ⟨by rfl, ?_⟩) ?_ ?_
  rotate_left
  · intro w'
    go_simp
    with_reducible rfl
  rotate_left
  · simp only [Act.put, List.setIfInBounds_toArray, List.set_cons_zero, List.set_cons_succ, i64_w, i32_w]
    rfl
  refine pure_ (i := 8) (N := some 11) (v := ?_) (a' := ?_) #[true, true, true, true, true, true, true, true, true, false, false, false, false, false, false, false, false, false, false, false, false, false, false, false, false, false] rfl rfl (by kernel_rfl) (fun _ _ _ h => h) (Or.inl ⟨by rfl, ?_⟩) ?_ ?_
  rotate_left
  · intro w'
    go_simp
    with_reducible rfl
  rotate_left
  · simp only [Act.put, List.setIfInBounds_toArray, List.set_cons_zero, List.set_cons_succ, i64_w, i32_w]
    rfl
  refine take_ (i := 9) (N := some 12) (v := ?_) (a' := ?_) #[true, true, true, true, true, true, true, true, true, true, false, false, false, false, false, false, false, false, false, false, false, false, false, false, false, false] rfl rfl (by kernel_rfl) (fun _ _ _ h => h) (Or.inl ⟨by rfl, ?_⟩) hHeld ?_ ?_
  rotate_left
  · rintro w' ⟨s0, s1, s2⟩
    go_simp
    with_reducible rfl
  rotate_left
  · simp only [Act.put, List.setIfInBounds_toArray, List.set_cons_zero, List.set_cons_succ, i64_w, i32_w]
    rfl
  refine one_ (i := 10) (N := some 13) #[true, true, true, true, true, true, true, true, true, true, true, false, false, false, false, false, false, false, false, false, false, false, false, false, false, false] rfl rfl (by kernel_rfl) (by decide) (fun K hK => ?_)
  refine goes_ Tryd.func21 (by kernel_rfl) rfl #[.pointer (some ⟨B, 0, none⟩)] (by rfl) rfl rfl (by simp only [List.map_toArray, List.map_cons, List.map_nil]; rfl) ?_
  with_reducible refine (err_nil HD.out.rd).mono ?_
  rintro e w3 ⟨rfl, rfl⟩
  refine ⟨_, rfl, ?_⟩
  refine hK.out _ _ ⟨c2, c0, c1⟩ (fun hHeld => ?_)
  clear hK K
  refine norm_ (a' := ?_) ?_ ?_
  rotate_left
  · show Act.put _ (some 13) _ = _
    simp only [Act.put, List.setIfInBounds_toArray, List.set_cons_zero, List.set_cons_succ, i64_w, i32_w]
    rfl
  refine pure_ (i := 11) (N := some 14) (v := ?_) (a' := ?_) #[true, true, true, true, true, true, true, true, true, true, true, true, false, false, false, false, false, false, false, false, false, false, false, false, false, false] rfl rfl (by kernel_rfl) (fun _ _ _ h => h) (Or.inl ⟨by rfl, ?_⟩) ?_ ?_
  rotate_left
  · intro w'
    go_simp
    with_reducible rfl
  rotate_left
  · simp only [Act.put, List.setIfInBounds_toArray, List.set_cons_zero, List.set_cons_succ, i64_w, i32_w]
    rfl
  refine pure_ (i := 12) (N := some 15) (v := ?_) (a' := ?_) #[true, true, true, true, true, true, true, true, true, true, true, true, true, false, false, false, false, false, false, false, false, false, false, false, false, false] rfl rfl (by kernel_rfl) (fun _ _ _ h => h) (Or.inl ⟨by rfl, ?_⟩) ?_ ?_
  rotate_left
  · intro w'
    go_simp
    with_reducible rfl
  rotate_left
  · simp only [Act.put, List.setIfInBounds_toArray, List.set_cons_zero, List.set_cons_succ, i64_w, i32_w]
    rfl
  refine pure_ (i := 13) (N := some 16) (v := ?_) (a' := ?_) #[true, true, true, true, true, true, true, true, true, true, true, true, true, true, false, false, false, false, false, false, false, false, false, false, false, false] rfl rfl (by kernel_rfl) (fun _ _ _ h => h) (Or.inl ⟨by rfl, ?_⟩) ?_ ?_
  rotate_left
  · intro w'
    go_simp
    with_reducible rfl
  rotate_left
  · simp only [Act.put, List.setIfInBounds_toArray, List.set_cons_zero, List.set_cons_succ, i64_w, i32_w]
    rfl
  refine pure_ (i := 14) (N := some 17) (v := ?_) (a' := ?_) #[true, true, true, true, true, true, true, true, true, true, true, true, true, true, true, false, false, false, false, false, false, false, false, false, false, false] rfl rfl (by kernel_rfl) (fun _ _ _ h => h) (Or.inl ⟨by rfl, ?_⟩) ?_ ?_
  rotate_left
  · intro w'
    go_simp
    with_reducible rfl
  rotate_left
  · simp only [Act.put, List.setIfInBounds_toArray, List.set_cons_zero, List.set_cons_succ, i64_w, i32_w]
    rfl
  refine pure_ (i := 15) (N := some 18) (v := ?_) (a' := ?_) #[true, true, true, true, true, true, true, true, true, true, true, true, true, true, true, true, false, false, false, false, false, false, false, false, false, false] rfl rfl (by kernel_rfl) (fun _ _ _ h => h) (Or.inl ⟨by rfl, ?_⟩) ?_ ?_
  rotate_left
  · intro w'
    go_simp
    with_reducible rfl
  rotate_left
  · simp only [Act.put, List.setIfInBounds_toArray, List.set_cons_zero, List.set_cons_succ, i64_w, i32_w]
    rfl
  refine pure_ (i := 16) (N := some 19) (v := ?_) (a' := ?_) #[true, true, true, true, true, true, true, true, true, true, true, true, true, true, true, true, true, false, false, false, false, false, false, false, false, false] rfl rfl (by kernel_rfl) (fun _ _ _ h => h) (Or.inl ⟨by rfl, ?_⟩) ?_ ?_
  rotate_left
  · intro w'
    go_simp
    with_reducible rfl
  rotate_left
  · simp only [Act.put, List.setIfInBounds_toArray, List.set_cons_zero, List.set_cons_succ, i64_w, i32_w]
    rfl
  refine pure_ (i := 19) (N := some 22) (v := ?_) (a' := ?_) #[true, true, true, true, true, true, true, true, true, true, true, true, true, true, true, true, true, false, false, true, false, false, false, false, false, false] rfl rfl (by kernel_rfl) (fun _ _ _ h => h) (Or.inl ⟨by rfl, ?_⟩) ?_ ?_
  rotate_left
  · intro w'
    go_simp
    with_reducible rfl
  rotate_left
  · simp only [Act.put, List.setIfInBounds_toArray, List.set_cons_zero, List.set_cons_succ, i64_w, i32_w]
    rfl
  refine pure_ (i := 20) (N := some 23) (v := ?_) (a' := ?_) #[true, true, true, true, true, true, true, true, true, true, true, true, true, true, true, true, true, false, false, true, true, false, false, false, false, false] rfl rfl (by kernel_rfl) (fun _ _ _ h => h) (Or.inl ⟨by rfl, ?_⟩) ?_ ?_
  rotate_left
  · intro w'
    go_simp
    with_reducible rfl
  rotate_left
  · simp only [Act.put, List.setIfInBounds_toArray, List.set_cons_zero, List.set_cons_succ, i64_w, i32_w]
    rfl
  refine pure_ (i := 21) (N := some 24) (v := ?_) (a' := ?_) #[true, true, true, true, true, true, true, true, true, true, true, true, true, true, true, true, true, false, false, true, true, true, false, false, false, false] rfl rfl (by kernel_rfl) (fun _ _ _ h => h) (Or.inl ⟨by rfl, ?_⟩) ?_ ?_
  rotate_left
  · intro w'
    go_simp
    with_reducible rfl
  rotate_left
  · simp only [Act.put, List.setIfInBounds_toArray, List.set_cons_zero, List.set_cons_succ, i64_w, i32_w]
    rfl
  refine take_ (i := 17) (N := some 20) (v := ?_) (a' := ?_) #[true, true, true, true, true, true, true, true, true, true, true, true, true, true, true, true, true, true, false, true, true, true, false, false, false, false] rfl rfl (by kernel_rfl) (fun _ _ _ h => h) (Or.inl ⟨by rfl, ?_⟩) hHeld ?_ ?_
  rotate_left
  · rintro w' ⟨s0, s1, s2⟩
    go_simp
    with_reducible rfl
  rotate_left
  · simp only [Act.put, List.setIfInBounds_toArray, List.set_cons_zero, List.set_cons_succ, i64_w, i32_w]
    rfl
  refine take_ (i := 22) (N := some 25) (v := ?_) (a' := ?_) #[true, true, true, true, true, true, true, true, true, true, true, true, true, true, true, true, true, true, false, true, true, true, true, false, false, false] rfl rfl (by kernel_rfl) (fun _ _ _ h => h) (Or.inl ⟨by rfl, ?_⟩) hHeld ?_ ?_
  rotate_left
  · rintro w' ⟨s0, s1, s2⟩
    go_simp
    with_reducible rfl
  rotate_left
  · simp only [Act.put, List.setIfInBounds_toArray, List.set_cons_zero, List.set_cons_succ, i64_w, i32_w]
    rfl
  refine one_ (i := 18) (N := some 21) #[true, true, true, true, true, true, true, true, true, true, true, true, true, true, true, true, true, true, true, true, true, true, true, false, false, false] rfl rfl (by kernel_rfl) (by decide) (fun K hK => ?_)
  refine goes_ Tryd.func48 (by kernel_rfl) rfl #[.pointer (some ⟨B, 0, none⟩)] (by rfl) rfl rfl (by simp only [List.map_toArray, List.map_cons, List.map_nil]; rfl) ?_
  with_reducible refine (at_any HD.out.rd).mono ?_
  rintro e w3 ⟨rfl, rfl⟩
  refine ⟨_, rfl, ?_⟩
  refine hK.out _ _ ⟨c2, c0, c1⟩ (fun hHeld => ?_)
  clear hK K
  refine norm_ (a' := ?_) ?_ ?_
  rotate_left
  · show Act.put _ (some 21) _ = _
    simp only [Act.put, List.setIfInBounds_toArray, List.set_cons_zero, List.set_cons_succ, i64_w, i32_w]
    rfl
  refine pure_ (i := 23) (N := some 26) (v := ?_) (a' := ?_) #[true, true, true, true, true, true, true, true, true, true, true, true, true, true, true, true, true, true, true, true, true, true, true, true, false, false] rfl rfl (by kernel_rfl) (fun _ _ _ h => h) (Or.inl ⟨by rfl, ?_⟩) ?_ ?_
  rotate_left
  · intro w'
    go_simp
    with_reducible rfl
  rotate_left
  · simp only [Act.put, List.setIfInBounds_toArray, List.set_cons_zero, List.set_cons_succ, i64_w, i32_w]
    rfl
  refine pure_ (i := 24) (N := some 27) (v := ?_) (a' := ?_) #[true, true, true, true, true, true, true, true, true, true, true, true, true, true, true, true, true, true, true, true, true, true, true, true, true, false] rfl rfl (by kernel_rfl) (fun _ _ _ h => h) (Or.inl ⟨by rfl, ?_⟩) ?_ ?_
  rotate_left
  · intro w'
    go_simp
    with_reducible rfl
  rotate_left
  · simp only [Act.put, List.setIfInBounds_toArray, List.set_cons_zero, List.set_cons_succ, i64_w, i32_w]
    rfl
  refine pure_ (i := 25) (N := some 2) (v := ?_) (a' := ?_) #[true, true, true, true, true, true, true, true, true, true, true, true, true, true, true, true, true, true, true, true, true, true, true, true, true, true] rfl rfl (by kernel_rfl) (fun _ _ _ h => h) (Or.inl ⟨by rfl, ?_⟩) ?_ ?_
  rotate_left
  · intro w'
    go_simp
    with_reducible rfl
  rotate_left
  · simp only [Act.put, List.setIfInBounds_toArray, List.set_cons_zero, List.set_cons_succ, i64_w, i32_w]
    rfl
  refine done_ (by kernel_rfl) ?_
  go_wp2
  go_ret
  exact ⟨rfl, below_drew1 (Below.refl _ _)⟩
theorem more_any {w : World} {base C B : Nat} {l : List Int} {a n : Int} {f bad : Option (Int × Int)} (h : CrIs w base C B l a f n bad) :
    Calls Tryd.prog 36 #[.pointer (some ⟨C, 0, none⟩)] w fun e w' => e = .returned (.bool (cMore a f n bad)) ∧ Below w.heap.size w w' := by
  cases bad with
  | some b => exact more_bad h
  | none =>
    cases f with
    | some q => exact more_flt h
    | none => exact (more_none h).mono fun e w' ⟨h1, h2⟩ => ⟨by rw [h1]; simp [cMore], h2⟩
/-! ### a packet in memory -/
structure PkIs (w : World) (base Q : Nat) (p : Pkt) : Prop where
  ex : ∃ vw vp vm va vc vf, w.heap[Q]? = some (.cells (pktCells p vw vp vm va vc vf).toArray 43 (0, 0)) ∧
    (Kd.int .u8).R 5 w base (fun _ => True) vw p.will.payload ∧ (Kd.int .u8).R 5 w base (fun _ => True) vp p.pass ∧ (Kd.int .u8).R 5 w base (fun _ => True) vm p.msg.payload ∧
    kAsk.R 66 w base (fun _ => True) va p.asks ∧ (Kd.int .i64).R 3 w base (fun _ => True) vc p.codes ∧ Kd.string.R 9 w base (fun _ => True) vf p.filters
  ge : base ≤ Q
theorem PkIs.lt {w : World} {base Q : Nat} {p : Pkt} (h : PkIs w base Q p) : Q < w.heap.size := by
  obtain ⟨_, _, _, _, _, _, h1, _⟩ := h.ex
  exact blk_lt h1
theorem PkIs.self {w : World} {base Q : Nat} {p : Pkt} (h : PkIs w base Q p) : ∃ cells, w.heap[Q]? = some (.cells cells 43 (0, 0)) := by
  obtain ⟨_, _, _, _, _, _, h1, _⟩ := h.ex
  exact ⟨_, h1⟩
theorem R_frT {α : Type} {d : Kd α} {e base : Nat} {ok' : Nat → Prop} {w w1 : World} {v : Value} {xs : List α} (h : d.R e w base (fun _ => True) v xs) (hf : Fr ok' w w1) (hd : ∀ k, k < w.heap.size → ok' k → ∃ cells t, w.heap[k]? = some (.cells cells t (0, 0)) ∧ ∀ q, q ∈ e :: d.E → q ≠ t) : d.R e w1 base (fun _ => True) v xs :=
  Kd.R_mono (Kd.R_move (Kd.R_bound h) (fun k hk => hf.block k hk.2.2.1 fun e0 => by
    obtain ⟨cells, t, hc, ht⟩ := hd k hk.2.2.1 e0
    obtain ⟨q, hq, cells', hc'⟩ := hk.2.2.2
    rw [hc'] at hc; injection hc with hc; injection hc with _ hc
    exact ht q hq hc)) (fun _ _ => trivial)
theorem PkIs.fr {w w1 : World} {base Q : Nat} {p : Pkt} {ok : Nat → Prop} (h : PkIs w base Q p) (hf : Fr ok w w1) (hok : ∀ k, k < w.heap.size → ok k → ∃ cells t, w.heap[k]? = some (.cells cells t (0, 0)) ∧ t ≠ 5 ∧ t ≠ 66 ∧ t ≠ 3 ∧ t ≠ 9 ∧ t ≠ 43) : PkIs w1 base Q p := by
  obtain ⟨vw, vp, vm, va, vc, vf, h1, hw, hp, hm, ha, hc, hf'⟩ := h.ex
  refine ⟨⟨vw, vp, vm, va, vc, vf, (hf.block Q (blk_lt h1) fun e => ?_).trans h1, R_frT hw hf ?_, R_frT hp hf ?_, R_frT hm hf ?_, R_frT ha hf ?_, R_frT hc hf ?_, R_frT hf' hf ?_⟩, h.ge⟩
  · obtain ⟨cells, t, hc, _, _, _, _, ht⟩ := hok Q (blk_lt h1) e
    rw [h1] at hc; injection hc with hc; injection hc with _ hc; exact ht hc.symm
  all_goals
    intro k hk e
    obtain ⟨cells, t, hc, t1, t2, t3, t4, t5⟩ := hok k hk e
    refine ⟨cells, t, hc, fun q hq => ?_⟩
    have hq' : q = 5 ∨ q = 66 ∨ q = 3 ∨ q = 9 := by
      simp [kAsk, Kd.iso, Kd.pair, Kd.int, Kd.string, Kd.scalar] at hq
      omega
    rcases hq' with rfl | rfl | rfl | rfl
    · exact t1.symm
    · exact t2.symm
    · exact t3.symm
    · exact t4.symm
theorem PkIs.below {w w1 : World} {base Q : Nat} {p : Pkt} (h : PkIs w base Q p) (hb : Below w.heap.size w w1) : PkIs w1 base Q p :=
  h.fr (Fr.of_below (fun _ => False) hb) (fun _ _ e => e.elim)
theorem PkIs.cell {w : World} {base Q : Nat} {p : Pkt} (h : PkIs w base Q p) (j : Nat) (hj : j < 25) : ∃ u, w.cell? ⟨Q, j, none⟩ = some u := by
  obtain ⟨vw, vp, vm, va, vc, vf, h1, _⟩ := h.ex
  rw [blk_cell h1 j]
  exact ⟨_, Array.getElem?_eq_getElem (by simpa [pktCells] using hj)⟩
theorem PkIs.free {w : World} {base Q : Nat} {p : Pkt} (h : PkIs w base Q p) (j : Nat) : w.frozen? ⟨Q, j, none⟩ = false := by
  obtain ⟨vw, vp, vm, va, vc, vf, h1, _⟩ := h.ex
  exact blk_frozen h1 j
theorem PkIs.put {w : World} {base Q : Nat} {p p2 : Pkt} (h : PkIs w base Q p) (j : Nat) (u : Value)
    (e : ∀ vw vp vm va vc vf, (pktCells p vw vp vm va vc vf).toArray.setIfInBounds j u = (pktCells p2 vw vp vm va vc vf).toArray) (e1 : p2.will.payload = p.will.payload) (e2 : p2.pass = p.pass) (e3 : p2.msg.payload = p.msg.payload) (e4 : p2.asks = p.asks) (e5 : p2.codes = p.codes) (e6 : p2.filters = p.filters) : PkIs (w.setCell ⟨Q, j, none⟩ u) base Q p2 := by
  obtain ⟨vw, vp, vm, va, vc, vf, h1, hw, hp, hm, ha, hc, hf⟩ := h.ex
  refine ⟨⟨vw, vp, vm, va, vc, vf, ?_, ?_, ?_, ?_, ?_, ?_, ?_⟩, h.ge⟩
  · rw [← e]; exact blk_set h1 j u
  · rw [e1]; exact Kd.R_set hw h1 (by decide) j u
  · rw [e2]; exact Kd.R_set hp h1 (by decide) j u
  · rw [e3]; exact Kd.R_set hm h1 (by decide) j u
  · rw [e4]; exact Kd.R_set ha h1 (by decide) j u
  · rw [e5]; exact Kd.R_set hc h1 (by decide) j u
  · rw [e6]; exact Kd.R_set hf h1 (by decide) j u
/-! the fields set: functions of their own, so that a chain of them stays small -/
def uLevel (p : Pkt) (x : Int) : Pkt := { p with level := x }
def uClean (p : Pkt) (x : Bool) : Pkt := { p with clean := x }
def uKeep (p : Pkt) (x : Int) : Pkt := { p with keep := x }
def uClient (p : Pkt) (x : ByteArray) : Pkt := { p with client := x }
def uHasWill (p : Pkt) (x : Bool) : Pkt := { p with hasWill := x }
def uHasUser (p : Pkt) (x : Bool) : Pkt := { p with hasUser := x }
def uUser (p : Pkt) (x : ByteArray) : Pkt := { p with user := x }
def uHasPass (p : Pkt) (x : Bool) : Pkt := { p with hasPass := x }
def uPresent (p : Pkt) (x : Bool) : Pkt := { p with present := x }
def uCode (p : Pkt) (x : Int) : Pkt := { p with code := x }
def uDup (p : Pkt) (x : Bool) : Pkt := { p with dup := x }
def uId (p : Pkt) (x : Int) : Pkt := { p with id := x }
def uPass (p : Pkt) (x : List Int) : Pkt := { p with pass := x }
def uAsks (p : Pkt) (x : List AskV) : Pkt := { p with asks := x }
def uCodes (p : Pkt) (x : List Int) : Pkt := { p with codes := x }
def uFilters (p : Pkt) (x : List ByteArray) : Pkt := { p with filters := x }
def uWillTopic (p : Pkt) (x : ByteArray) : Pkt := { p with will := { p.will with topic := x } }
def uWillQos (p : Pkt) (x : Int) : Pkt := { p with will := { p.will with qos := x } }
def uWillRetain (p : Pkt) (x : Bool) : Pkt := { p with will := { p.will with retain := x } }
def uWillPayload (p : Pkt) (x : List Int) : Pkt := { p with will := { p.will with payload := x } }
def uTopic (p : Pkt) (x : ByteArray) : Pkt := { p with msg := { p.msg with topic := x } }
def uQos (p : Pkt) (x : Int) : Pkt := { p with msg := { p.msg with qos := x } }
def uRetain (p : Pkt) (x : Bool) : Pkt := { p with msg := { p.msg with retain := x } }
def uPayload (p : Pkt) (x : List Int) : Pkt := { p with msg := { p.msg with payload := x } }
section
variable {w : World} {base Q : Nat} {p : Pkt}
theorem PkIs.level (h : PkIs w base Q p) (x : Int) : PkIs (w.setCell ⟨Q, 1, none⟩ (.int .i64 x)) base Q (uLevel p x) := h.put 1 _ (fun _ _ _ _ _ _ => rfl) rfl rfl rfl rfl rfl rfl
theorem PkIs.clean (h : PkIs w base Q p) (x : Bool) : PkIs (w.setCell ⟨Q, 2, none⟩ (.bool x)) base Q (uClean p x) := h.put 2 _ (fun _ _ _ _ _ _ => rfl) rfl rfl rfl rfl rfl rfl
theorem PkIs.keep (h : PkIs w base Q p) (x : Int) : PkIs (w.setCell ⟨Q, 3, none⟩ (.int .i64 x)) base Q (uKeep p x) := h.put 3 _ (fun _ _ _ _ _ _ => rfl) rfl rfl rfl rfl rfl rfl
theorem PkIs.client (h : PkIs w base Q p) (x : ByteArray) : PkIs (w.setCell ⟨Q, 4, none⟩ (.string x)) base Q (uClient p x) := h.put 4 _ (fun _ _ _ _ _ _ => rfl) rfl rfl rfl rfl rfl rfl
theorem PkIs.hasWill (h : PkIs w base Q p) (x : Bool) : PkIs (w.setCell ⟨Q, 5, none⟩ (.bool x)) base Q (uHasWill p x) := h.put 5 _ (fun _ _ _ _ _ _ => rfl) rfl rfl rfl rfl rfl rfl
theorem PkIs.willTopic (h : PkIs w base Q p) (x : ByteArray) : PkIs (w.setCell ⟨Q, 6, none⟩ (.string x)) base Q (uWillTopic p x) := h.put 6 _ (fun _ _ _ _ _ _ => rfl) rfl rfl rfl rfl rfl rfl
theorem PkIs.willQos (h : PkIs w base Q p) (x : Int) : PkIs (w.setCell ⟨Q, 8, none⟩ (.int .i64 x)) base Q (uWillQos p x) := h.put 8 _ (fun _ _ _ _ _ _ => rfl) rfl rfl rfl rfl rfl rfl
theorem PkIs.willRetain (h : PkIs w base Q p) (x : Bool) : PkIs (w.setCell ⟨Q, 9, none⟩ (.bool x)) base Q (uWillRetain p x) := h.put 9 _ (fun _ _ _ _ _ _ => rfl) rfl rfl rfl rfl rfl rfl
theorem PkIs.hasUser (h : PkIs w base Q p) (x : Bool) : PkIs (w.setCell ⟨Q, 10, none⟩ (.bool x)) base Q (uHasUser p x) := h.put 10 _ (fun _ _ _ _ _ _ => rfl) rfl rfl rfl rfl rfl rfl
theorem PkIs.user (h : PkIs w base Q p) (x : ByteArray) : PkIs (w.setCell ⟨Q, 11, none⟩ (.string x)) base Q (uUser p x) := h.put 11 _ (fun _ _ _ _ _ _ => rfl) rfl rfl rfl rfl rfl rfl
theorem PkIs.hasPass (h : PkIs w base Q p) (x : Bool) : PkIs (w.setCell ⟨Q, 12, none⟩ (.bool x)) base Q (uHasPass p x) := h.put 12 _ (fun _ _ _ _ _ _ => rfl) rfl rfl rfl rfl rfl rfl
theorem PkIs.present (h : PkIs w base Q p) (x : Bool) : PkIs (w.setCell ⟨Q, 14, none⟩ (.bool x)) base Q (uPresent p x) := h.put 14 _ (fun _ _ _ _ _ _ => rfl) rfl rfl rfl rfl rfl rfl
theorem PkIs.code (h : PkIs w base Q p) (x : Int) : PkIs (w.setCell ⟨Q, 15, none⟩ (.int .i64 x)) base Q (uCode p x) := h.put 15 _ (fun _ _ _ _ _ _ => rfl) rfl rfl rfl rfl rfl rfl
theorem PkIs.dup (h : PkIs w base Q p) (x : Bool) : PkIs (w.setCell ⟨Q, 16, none⟩ (.bool x)) base Q (uDup p x) := h.put 16 _ (fun _ _ _ _ _ _ => rfl) rfl rfl rfl rfl rfl rfl
theorem PkIs.topic (h : PkIs w base Q p) (x : ByteArray) : PkIs (w.setCell ⟨Q, 17, none⟩ (.string x)) base Q (uTopic p x) := h.put 17 _ (fun _ _ _ _ _ _ => rfl) rfl rfl rfl rfl rfl rfl
theorem PkIs.qos (h : PkIs w base Q p) (x : Int) : PkIs (w.setCell ⟨Q, 19, none⟩ (.int .i64 x)) base Q (uQos p x) := h.put 19 _ (fun _ _ _ _ _ _ => rfl) rfl rfl rfl rfl rfl rfl
theorem PkIs.retain (h : PkIs w base Q p) (x : Bool) : PkIs (w.setCell ⟨Q, 20, none⟩ (.bool x)) base Q (uRetain p x) := h.put 20 _ (fun _ _ _ _ _ _ => rfl) rfl rfl rfl rfl rfl rfl
theorem PkIs.id (h : PkIs w base Q p) (x : Int) : PkIs (w.setCell ⟨Q, 21, none⟩ (.int .i64 x)) base Q (uId p x) := h.put 21 _ (fun _ _ _ _ _ _ => rfl) rfl rfl rfl rfl rfl rfl
theorem PkIs.willPayload (h : PkIs w base Q p) {v : Value} {x : List Int} (hr : (Kd.int .u8).R 5 w base (fun _ => True) v x) : PkIs (w.setCell ⟨Q, 7, none⟩ v) base Q (uWillPayload p x) := by
  obtain ⟨vw, vp, vm, va, vc, vf, h1, hw, hp, hm, ha, hc, hf⟩ := h.ex
  exact ⟨⟨v, vp, vm, va, vc, vf, blk_set h1 7 v, Kd.R_set hr h1 (by decide) 7 v, Kd.R_set hp h1 (by decide) 7 v, Kd.R_set hm h1 (by decide) 7 v, Kd.R_set ha h1 (by decide) 7 v, Kd.R_set hc h1 (by decide) 7 v, Kd.R_set hf h1 (by decide) 7 v⟩, h.ge⟩
theorem PkIs.pass (h : PkIs w base Q p) {v : Value} {x : List Int} (hr : (Kd.int .u8).R 5 w base (fun _ => True) v x) : PkIs (w.setCell ⟨Q, 13, none⟩ v) base Q (uPass p x) := by
  obtain ⟨vw, vp, vm, va, vc, vf, h1, hw, hp, hm, ha, hc, hf⟩ := h.ex
  exact ⟨⟨vw, v, vm, va, vc, vf, blk_set h1 13 v, Kd.R_set hw h1 (by decide) 13 v, Kd.R_set hr h1 (by decide) 13 v, Kd.R_set hm h1 (by decide) 13 v, Kd.R_set ha h1 (by decide) 13 v, Kd.R_set hc h1 (by decide) 13 v, Kd.R_set hf h1 (by decide) 13 v⟩, h.ge⟩
theorem PkIs.payload (h : PkIs w base Q p) {v : Value} {x : List Int} (hr : (Kd.int .u8).R 5 w base (fun _ => True) v x) : PkIs (w.setCell ⟨Q, 18, none⟩ v) base Q (uPayload p x) := by
  obtain ⟨vw, vp, vm, va, vc, vf, h1, hw, hp, hm, ha, hc, hf⟩ := h.ex
  exact ⟨⟨vw, vp, v, va, vc, vf, blk_set h1 18 v, Kd.R_set hw h1 (by decide) 18 v, Kd.R_set hp h1 (by decide) 18 v, Kd.R_set hr h1 (by decide) 18 v, Kd.R_set ha h1 (by decide) 18 v, Kd.R_set hc h1 (by decide) 18 v, Kd.R_set hf h1 (by decide) 18 v⟩, h.ge⟩
theorem PkIs.asks (h : PkIs w base Q p) {v : Value} {x : List AskV} (hr : kAsk.R 66 w base (fun _ => True) v x) : PkIs (w.setCell ⟨Q, 22, none⟩ v) base Q (uAsks p x) := by
  obtain ⟨vw, vp, vm, va, vc, vf, h1, hw, hp, hm, ha, hc, hf⟩ := h.ex
  exact ⟨⟨vw, vp, vm, v, vc, vf, blk_set h1 22 v, Kd.R_set hw h1 (by decide) 22 v, Kd.R_set hp h1 (by decide) 22 v, Kd.R_set hm h1 (by decide) 22 v, Kd.R_set hr h1 (by decide) 22 v, Kd.R_set hc h1 (by decide) 22 v, Kd.R_set hf h1 (by decide) 22 v⟩, h.ge⟩
theorem PkIs.codes (h : PkIs w base Q p) {v : Value} {x : List Int} (hr : (Kd.int .i64).R 3 w base (fun _ => True) v x) : PkIs (w.setCell ⟨Q, 23, none⟩ v) base Q (uCodes p x) := by
  obtain ⟨vw, vp, vm, va, vc, vf, h1, hw, hp, hm, ha, hc, hf⟩ := h.ex
  exact ⟨⟨vw, vp, vm, va, v, vf, blk_set h1 23 v, Kd.R_set hw h1 (by decide) 23 v, Kd.R_set hp h1 (by decide) 23 v, Kd.R_set hm h1 (by decide) 23 v, Kd.R_set ha h1 (by decide) 23 v, Kd.R_set hr h1 (by decide) 23 v, Kd.R_set hf h1 (by decide) 23 v⟩, h.ge⟩
theorem PkIs.filters (h : PkIs w base Q p) {v : Value} {x : List ByteArray} (hr : Kd.string.R 9 w base (fun _ => True) v x) : PkIs (w.setCell ⟨Q, 24, none⟩ v) base Q (uFilters p x) := by
  obtain ⟨vw, vp, vm, va, vc, vf, h1, hw, hp, hm, ha, hc, hf⟩ := h.ex
  exact ⟨⟨vw, vp, vm, va, vc, v, blk_set h1 24 v, Kd.R_set hw h1 (by decide) 24 v, Kd.R_set hp h1 (by decide) 24 v, Kd.R_set hm h1 (by decide) 24 v, Kd.R_set ha h1 (by decide) 24 v, Kd.R_set hc h1 (by decide) 24 v, Kd.R_set hr h1 (by decide) 24 v⟩, h.ge⟩
end
end Go.Proofs.YthlbcgaegaoanaaDoor.Cr

namespace Go.Proofs.YthlbcgaegaoanaaDoor.Cr
open Go Go.RowKit Go.Proofs.YthlbcgaegaoanaaDoorW.PrintWords Go.Proofs.YthlbcgaegaoanaaDoorW.PrintLast Go.Proofs.YthlbcgaegaoanaaDoorW.PrintMore Go.Proofs.YthlbcgaegaoanaaDoor.Kinds Go.Proofs.YthlbcgaegaoanaaDoor.Utf Go.Proofs.YthlbcgaegaoanaaDoor.Chk Go.Proofs.YthlbcgaegaoanaaDoor.Rdr
set_option linter.unusedVariables false
set_option linter.unusedSimpArgs false
structure Cn (w : World) (base C B Q : Nat) (l : List Int) (a : Int) (f : Option (Int × Int)) (n : Int) (bad : Option (Int × Int)) (p : Pkt) : Prop where
  cr : CrIs w base C B l a f n bad
  pk : PkIs w base Q p
section
variable {w w1 : World} {base C B Q : Nat} {l : List Int} {a n : Int} {f bad : Option (Int × Int)} {p p2 : Pkt}
theorem Cn.ne (h : Cn w base C B Q l a f n bad p) : C ≠ Q := by
  rintro rfl
  obtain ⟨ev, h1, _⟩ := h.cr.ex
  obtain ⟨cells, h2⟩ := h.pk.self
  rw [h1] at h2; injection h2 with h2; injection h2 with _ h2; exact absurd h2 (by decide)
theorem Cn.below (h : Cn w base C B Q l a f n bad p) (hb : Below w.heap.size w w1) : Cn w1 base C B Q l a f n bad p := ⟨h.cr.below hb, h.pk.below hb⟩
theorem Cn.pkt (h : Cn w base C B Q l a f n bad p) {j : Nat} {u : Value} (hp : PkIs (w.setCell ⟨Q, j, none⟩ u) base Q p2) : Cn (w.setCell ⟨Q, j, none⟩ u) base C B Q l a f n bad p2 := by
  obtain ⟨cells, h2⟩ := h.pk.self
  exact ⟨h.cr.fr ((Fr.refl (fun k => k = Q) w).setCell (p := ⟨Q, j, none⟩) (fun _ => rfl) u) (fun k hk e => ⟨cells, 43, e ▸ h2, by decide, by decide, by decide, by decide⟩), hp⟩
theorem Cn.step (h : Cn w base C B Q l a f n bad p) {a1 : Int} {f1 : Option (Int × Int)} (h1 : RdIs w1 base B l a1 f1) (hf : Fr (fun k => k = B) w w1) : Cn w1 base C B Q l a1 f1 n bad p := by
  obtain ⟨cells, hB⟩ := h.cr.rd.self
  exact ⟨h.cr.step h1 hf, h.pk.fr hf (fun k hk e => ⟨cells, 92, e ▸ hB, by decide, by decide, by decide, by decide, by decide⟩)⟩
theorem Cn.c0 (h : Cn w base C B Q l a f n bad p) : w.cell? ⟨C, 0, none⟩ = some (.pointer (some ⟨B, 0, none⟩)) := by
  obtain ⟨ev, h1, _⟩ := h.cr.cells
  exact h1
theorem Cn.ltQ (h : Cn w base C B Q l a f n bad p) : Q < w.heap.size := h.pk.lt
theorem cn_text (h : Cn w base C B Q l a f n bad p) (r : Rd ByteArray) (hr : r = rText l a f) :
    Calls Tryd.prog 33 #[.pointer (some ⟨B, 0, none⟩)] w fun e w' => e = .returned (.string r.v) ∧ Cn w' base C B Q l r.a r.f n bad p ∧ Fr (fun k => k = B) w w' := by
  subst hr
  exact (text_any h.cr.rd).mono fun e w' ⟨h1, h2, h3⟩ => ⟨h1, h.step h2 h3, h3⟩
theorem cn_byte (h : Cn w base C B Q l a f n bad p) (r : Rd Int) (hr : r = rByte l a f) :
    Calls Tryd.prog 30 #[.pointer (some ⟨B, 0, none⟩)] w fun e w' => e = .returned (.int .u8 r.v) ∧ Cn w' base C B Q l r.a r.f n bad p ∧ Fr (fun k => k = B) w w' := by
  subst hr
  exact (byte_any h.cr.rd).mono fun e w' ⟨h1, h2, h3⟩ => ⟨h1, h.step h2 h3, h3⟩
theorem cn_num (h : Cn w base C B Q l a f n bad p) (r : Rd Int) (hr : r = rNum l a f) :
    Calls Tryd.prog 34 #[.pointer (some ⟨B, 0, none⟩)] w fun e w' => e = .returned (.int .i64 r.v) ∧ Cn w' base C B Q l r.a r.f n bad p ∧ Fr (fun k => k = B) w w' := by
  subst hr
  exact (num_any h.cr.rd).mono fun e w' ⟨h1, h2, h3⟩ => ⟨h1, h.step h2 h3, h3⟩
theorem cn_data (h : Cn w base C B Q l a f n bad p) (r : Rd (List Int)) (hr : r = rData l a f) :
    Calls Tryd.prog 49 #[.pointer (some ⟨B, 0, none⟩)] w fun e w' => ∃ v, e = .returned v ∧ (Kd.int .u8).R 5 w' base (fun _ => True) v r.v ∧ Cn w' base C B Q l r.a r.f n bad p ∧ Fr (fun k => k = B) w w' := by
  subst hr
  exact (data_any h.cr.rd).mono fun e w' ⟨v, h1, hv, h2, h3⟩ => ⟨v, h1, Kd.R_lower hv (by have := h.cr.rd.ge; have := h.cr.rd.lt; omega), h.step h2 h3, h3⟩
theorem cn_rest (h : Cn w base C B Q l a f n bad p) (r : Rd (List Int)) (hr : r = rRest l a f) :
    Calls Tryd.prog 35 #[.pointer (some ⟨B, 0, none⟩)] w fun e w' => ∃ v, e = .returned v ∧ (Kd.int .u8).R 5 w' base (fun _ => True) v r.v ∧ Cn w' base C B Q l r.a r.f n bad p ∧ Fr (fun k => k = B) w w' := by
  subst hr
  exact (rest_any h.cr.rd).mono fun e w' ⟨v, h1, hv, h2, h3⟩ => ⟨v, h1, Kd.R_lower hv (by have := h.cr.rd.ge; have := h.cr.rd.lt; omega), h.step h2 h3, h3⟩
theorem cn_end (h : Cn w base C B Q l a f n bad p) (r : Option (Int × Int)) (hr : r = rEnd l a f) :
    Calls Tryd.prog 32 #[.pointer (some ⟨B, 0, none⟩)] w fun e w' => e = .returned (.tuple #[]) ∧ Cn w' base C B Q l a r n bad p ∧ Fr (fun k => k = B) w w' := by
  subst hr
  exact (end_any h.cr.rd).mono fun e w' ⟨h1, h2, h3⟩ => ⟨h1, h.step h2 h3, h3⟩
theorem cn_at (h : Cn w base C B Q l a f n bad p) :
    Calls Tryd.prog 48 #[.pointer (some ⟨B, 0, none⟩)] w fun e w' => e = .returned (.int .i64 a) ∧ w = w' := at_any h.cr.rd
theorem cn_fail (h : Cn w base C B Q l a f n bad p) (x c : Int) (b2 : Option (Int × Int)) (hb : b2 = cFail x c f bad) :
    Calls Tryd.prog 31 #[.pointer (some ⟨C, 0, none⟩), .int .i64 x, .int .i64 c] w fun e w' => e = .returned (.tuple #[]) ∧ Cn w' base C B Q l a f n b2 p ∧ Fr (fun k => k = C) w w' := by
  subst hb
  obtain ⟨ev, h1, _⟩ := h.cr.ex
  exact (Cr.fail_any h.cr x c).mono fun e w' ⟨g1, g2, g3⟩ => ⟨g1, ⟨g2, h.pk.fr g3 (fun k hk e => ⟨_, 73, e ▸ h1, by decide, by decide, by decide, by decide, by decide⟩)⟩, g3⟩
theorem cn_more (h : Cn w base C B Q l a f n bad p) :
    Calls Tryd.prog 36 #[.pointer (some ⟨C, 0, none⟩)] w fun e w' => e = .returned (.bool (cMore a f n bad)) ∧ Cn w' base C B Q l a f n bad p ∧ Below w.heap.size w w' :=
  (more_any h.cr).mono fun e w' ⟨g1, g2⟩ => ⟨g1, h.below g2, g2⟩
end
theorem rByte_range (l : List Int) (a : Int) (f : Option (Int × Int)) (hw : ∀ x ∈ l, 0 ≤ x ∧ x ≤ 255) : 0 ≤ (rByte l a f).v ∧ (rByte l a f).v ≤ 255 := by
  unfold rByte
  by_cases h : f.isSome = true
  · rw [if_pos h]; simp
  · rw [if_neg h]
    by_cases h1 : a + 1 ≤ l.length
    · rw [if_pos h1]; exact rd_range l hw a
    · rw [if_neg h1]; simp
theorem rNum_range (l : List Int) (a : Int) (f : Option (Int × Int)) (hw : ∀ x ∈ l, 0 ≤ x ∧ x ≤ 255) (h0 : 0 ≤ a) : 0 ≤ (rNum l a f).v ∧ (rNum l a f).v ≤ 65535 := by
  unfold rNum
  by_cases h : f.isSome = true
  · rw [if_pos h]; simp
  · rw [if_neg h]
    by_cases h1 : a + 2 ≤ l.length
    · rw [if_pos h1]; exact two_range l a hw h0 h1
    · rw [if_neg h1]; simp
theorem PkIs.has {w : World} {base Q : Nat} {p : Pkt} (h : PkIs w base Q p) : w.cell? ⟨Q, 5, none⟩ = some (.bool p.hasWill) ∧ w.cell? ⟨Q, 10, none⟩ = some (.bool p.hasUser) ∧ w.cell? ⟨Q, 12, none⟩ = some (.bool p.hasPass) ∧ w.cell? ⟨Q, 19, none⟩ = some (.int .i64 p.msg.qos) := by
  obtain ⟨vw, vp, vm, va, vc, vf, h1, _⟩ := h.ex
  exact ⟨blk_cell h1 5, blk_cell h1 10, blk_cell h1 12, blk_cell h1 19⟩
structure CS where
  a : Int
  f : Option (Int × Int)
  p : Pkt
def sWill (l : List Int) (s : CS) : CS :=
  if s.p.hasWill = true then ⟨(rData l (rText l s.a s.f).a (rText l s.a s.f).f).a, (rData l (rText l s.a s.f).a (rText l s.a s.f).f).f, uWillPayload (uWillTopic s.p (rText l s.a s.f).v) (rData l (rText l s.a s.f).a (rText l s.a s.f).f).v⟩ else s
def sUser (l : List Int) (s : CS) : CS :=
  if s.p.hasUser = true then ⟨(rText l s.a s.f).a, (rText l s.a s.f).f, uUser s.p (rText l s.a s.f).v⟩ else s
def sPass (l : List Int) (s : CS) : CS :=
  if s.p.hasPass = true then ⟨(rData l s.a s.f).a, (rData l s.a s.f).f, uPass s.p (rData l s.a s.f).v⟩ else s
def bit8 (m k : Int) : Bool := bits .and .u8 m k != 0
def pMarks (p : Pkt) (lev m : Int) : Pkt := uWillRetain (uWillQos (uHasUser (uHasPass (uHasWill (uClean (uLevel p lev) (bits .and .u8 m 2 != 0)) (bits .and .u8 m 4 != 0)) (bits .and .u8 m 64 != 0)) (bits .and .u8 m 128 != 0)) (wrap64 (bits .and .u8 m 24 / 8))) (bits .and .u8 m 32 != 0)
def cBad (l : List Int) (a : Int) (f bad : Option (Int × Int)) : Option (Int × Int) :=
  let t := rText l a f
  let b1 := if (!t.v.toList == [77, 81, 84, 84]) = true then cFail 0 33 t.f bad else bad
  let y := rByte l t.a t.f
  let m := rByte l y.a y.f
  if ((bits .and .u8 m.v 1 != 0) || (bits .and .u8 m.v 24 == 24)) = true then cFail y.a 34 m.f b1 else b1
def cHead (l : List Int) (a : Int) (f : Option (Int × Int)) (p : Pkt) : CS :=
  let t := rText l a f
  let y := rByte l t.a t.f
  let m := rByte l y.a y.f
  let k := rNum l m.a m.f
  let c := rText l k.a k.f
  ⟨c.a, c.f, uClient (uKeep (pMarks p y.v m.v) k.v) c.v⟩
def cConn (l : List Int) (a : Int) (f : Option (Int × Int)) (p : Pkt) : CS :=
  let s := sPass l (sUser l (sWill l (cHead l a f p)))
  ⟨s.a, rEnd l s.a s.f, s.p⟩
def ok3 (B C Q : Nat) : Nat → Prop := fun k => k = B ∨ k = C ∨ k = Q
theorem Fr.b3 {B C Q : Nat} {w w1 w2 : World} (h : Fr (ok3 B C Q) w w1) (h2 : Fr (fun k => k = B) w1 w2) : Fr (ok3 B C Q) w w2 := h.trans h2 (fun k _ e => .inl e)
theorem Fr.c3 {B C Q : Nat} {w w1 w2 : World} (h : Fr (ok3 B C Q) w w1) (h2 : Fr (fun k => k = C) w1 w2) : Fr (ok3 B C Q) w w2 := h.trans h2 (fun k _ e => .inr (.inl e))
theorem Fr.q3 {B C Q : Nat} {w w1 : World} (h : Fr (ok3 B C Q) w w1) (j : Nat) (u : Value) : Fr (ok3 B C Q) w (w1.setCell ⟨Q, j, none⟩ u) := h.setCell (fun _ => .inr (.inr rfl)) u
end Go.Proofs.YthlbcgaegaoanaaDoor.Cr

namespace Go.Proofs.YthlbcgaegaoanaaDoor.Cr
open Go Go.RowKit Go.Proofs.YthlbcgaegaoanaaDoorW.PrintWords Go.Proofs.YthlbcgaegaoanaaDoorW.PrintLast Go.Proofs.YthlbcgaegaoanaaDoorW.PrintMore Go.Proofs.YthlbcgaegaoanaaDoor.Kinds Go.Proofs.YthlbcgaegaoanaaDoor.Utf Go.Proofs.YthlbcgaegaoanaaDoor.Chk Go.Proofs.YthlbcgaegaoanaaDoor.Rdr
set_option linter.unusedVariables false
set_option linter.unusedSimpArgs false
set_option maxRecDepth 100000 in
set_option maxHeartbeats 2000000 in
theorem connect_any {w : World} {base C B Q : Nat} {l : List Int} {a n : Int} {f bad : Option (Int × Int)} {p : Pkt} (h : Cn w base C B Q l a f n bad p) :
    Calls Tryd.prog 29 #[.pointer (some ⟨C, 0, none⟩), .pointer (some ⟨Q, 0, none⟩)] w fun e w' => e = .returned (.tuple #[]) ∧ Cn w' base C B Q l (cConn l a f p).a (cConn l a f p).f n (cBad l a f bad) (cConn l a f p).p ∧ Fr (ok3 B C Q) w w' := by
  have hw := h.cr.rd.byte
  have hne : ¬ C = Q := h.ne
  have hne2 : ¬ Q = C := fun e => hne e.symm
  have c0 := h.c0
  obtain ⟨t, ht⟩ : ∃ t, t = rText l a f := ⟨_, rfl⟩
  obtain ⟨b1, hb1⟩ : ∃ b1, b1 = if (!t.v.toList == [77, 81, 84, 84]) = true then cFail 0 33 t.f bad else bad := ⟨_, rfl⟩
  obtain ⟨y, hy⟩ : ∃ y, y = rByte l t.a t.f := ⟨_, rfl⟩
  obtain ⟨m, hm⟩ : ∃ m, m = rByte l y.a y.f := ⟨_, rfl⟩
  have hyr : 0 ≤ y.v ∧ y.v ≤ 255 := by rw [hy]; exact rByte_range l _ _ hw
  have hmr : 0 ≤ m.v ∧ m.v ≤ 255 := by rw [hm]; exact rByte_range l _ _ hw
  obtain ⟨q, hq⟩ : ∃ q, q = ((bits .and .u8 m.v 1 != 0) || (bits .and .u8 m.v 24 == 24)) := ⟨_, rfl⟩
  obtain ⟨b2, hb2⟩ : ∃ b2, b2 = if q = true then cFail y.a 34 m.f b1 else b1 := ⟨_, rfl⟩
  have HQ := Aside0.mk hq
  have HB2 := Aside0.mk hb2
  have HBF := Aside0.mk (show cBad l a f bad = b2 by simp only [cBad, hb2, hq, hb1, hm, hy, ht])
  clear hq hb2
  obtain ⟨p2, hp2⟩ : ∃ p2, p2 = pMarks p y.v m.v := ⟨_, rfl⟩
  obtain ⟨k, hk⟩ : ∃ k, k = rNum l m.a m.f := ⟨_, rfl⟩
  obtain ⟨c, hc⟩ : ∃ c, c = rText l k.a k.f := ⟨_, rfl⟩
  obtain ⟨s4, hs4⟩ : ∃ s4 : CS, s4 = ⟨c.a, c.f, uClient (uKeep p2 k.v) c.v⟩ := ⟨_, rfl⟩
  obtain ⟨s5, hs5⟩ : ∃ s5, s5 = sWill l s4 := ⟨_, rfl⟩
  obtain ⟨s6, hs6⟩ : ∃ s6, s6 = sUser l s5 := ⟨_, rfl⟩
  obtain ⟨s7, hs7⟩ : ∃ s7, s7 = sPass l s6 := ⟨_, rfl⟩
  obtain ⟨r8, hr8⟩ : ∃ r8, r8 = rEnd l s7.a s7.f := ⟨_, rfl⟩
  have HFIN := Aside0.mk (show cConn l a f p = ⟨s7.a, r8, s7.p⟩ by simp only [cConn, cHead, hs4, hs5, hs6, hs7, hr8, hc, hk, hp2, hm, hy, ht])
  have HP2 := Aside0.mk hp2
  have HK := Aside0.mk hk
  have HCL := Aside0.mk hc
  have HS4 := Aside0.mk hs4
  have HS5 := Aside0.mk hs5
  have HS6 := Aside0.mk hs6
  have HS7 := Aside0.mk hs7
  have HR8 := Aside0.mk hr8
  clear hp2 hk hc hs4 hs5 hs6 hs7 hr8
  obtain ⟨y0, y1⟩ := hyr
  obtain ⟨m0, m1⟩ := hmr
  have HH := Aside0.mk h
  have HT := Aside0.mk ht
  have HB1 := Aside0.mk hb1
  have HY := Aside0.mk hy
  have HM := Aside0.mk hm
  have HW := Aside0.mk hw
  clear h ht hb1 hy hm hw
  go_enter Tryd.func29, Tryd.ntmps29
  go_upto_if 11 with (go_at_call 33; refine (cn_text HH.out t HT.out).mono ?_; rintro e w1 ⟨rfl, hC, hF⟩; have HC1 := Aside0.mk hC; have HF1 := Aside0.mk (Fr.b3 (Fr.refl (ok3 B C Q) w) hF); clear hC hF)
  go_cut [] (fun wx => Aside0 (Cn wx base C B Q l t.a t.f n b1 p) ∧ Aside0 (Fr (ok3 B C Q) w wx))
  case first =>
    go_wp2_with fail
    · have hq3 : (!t.v.toList == [77, 81, 84, 84]) = true := by assumption
      have hb := HB1.out
      rw [if_pos hq3] at hb
      refine (cn_fail HC1.out 0 33 b1 hb).mono ?_
      rintro e w2 ⟨rfl, hC, hF⟩
      have HC2 := Aside0.mk hC
      have HF2 := Aside0.mk (Fr.c3 HF1.out hF)
      clear hC hF hb
      go_wp2
      go_meet
      case rel => exact ⟨HC2, HF2⟩
    · have hq3 : (!t.v.toList == [77, 81, 84, 84]) = false := by assumption
      have hb := HB1.out
      rw [if_neg (by rw [hq3]; decide)] at hb
      subst hb
      go_meet
      case rel => exact ⟨HC1, HF1⟩
  case rest =>
    obtain ⟨HC, HF⟩ := hcut
    have c0 := HC.out.c0
    clear HC1 HF1 HB1 HT HH
    go_upto_region 5 with (first
      | (go_at_call 30; (with_reducible refine (cn_byte HC.out y HY.out).mono ?_); rintro e w3 ⟨rfl, hC, hF⟩; have c0 := hC.c0; obtain ⟨o1, q1⟩ := hC.pk.cell 1 (by decide); have qf := hC.pk.free; have HC3 := Aside0.mk (hC.pkt (hC.pk.level y.v)); have HF3 := Aside0.mk (Fr.q3 (Fr.b3 HF.out hF) 1 (.int .i64 y.v)); clear hC hF HC HF)
      | (go_at_call 48; (with_reducible refine (cn_at HC3.out).mono ?_); rintro e w4 ⟨rfl, rfl⟩)
      | (go_at_call 30; (with_reducible refine (cn_byte HC3.out m HM.out).mono ?_); rintro e w5 ⟨rfl, hC, hF⟩; clear c0 q1 qf; have c0 := hC.c0; have HC5 := Aside0.mk hC; have HF5 := Aside0.mk (Fr.b3 HF3.out hF); clear hC hF HC3 HF3))
    go_cut [40] (fun s40 wx => s40 = .bool q ∧ wx = w5)
    case first =>
      go_wp2_with fail
      · go_meet
        case rel => exact ⟨by rw [HQ.out]; simp [*], rfl⟩
      · go_meet
        case rel => exact ⟨by rw [HQ.out]; simp [*], rfl⟩
    case rest =>
      obtain ⟨rfl, rfl⟩ := hcut
      go_upto_if 40 with fail
      go_cut [] (fun wx => Aside0 (Cn wx base C B Q l m.a m.f n b2 (uLevel p y.v)) ∧ Aside0 (Fr (ok3 B C Q) w wx))
      case first =>
        cases hq : q with
        | true =>
          have hb := HB2.out
          rw [if_pos hq] at hb
          go_wp2_with fail
          refine (cn_fail HC5.out y.a 34 b2 hb).mono ?_
          rintro e w2 ⟨rfl, hC, hF⟩
          have HC2 := Aside0.mk hC
          have HF2 := Aside0.mk (Fr.c3 HF5.out hF)
          clear hC hF hb
          go_wp2
          go_meet
          case rel => exact ⟨HC2, HF2⟩
        | false =>
          have hb := HB2.out
          rw [if_neg (by rw [hq]; decide)] at hb
          subst hb
          go_wp2
          go_meet
          case rel => exact ⟨HC5, HF5⟩
      case rest =>
        obtain ⟨HC, HF⟩ := hcut
        have c0 := HC.out.c0
        have qf := HC.out.pk.free
        obtain ⟨o2, q2⟩ := HC.out.pk.cell 2 (by decide)
        obtain ⟨o5, q5⟩ := HC.out.pk.cell 5 (by decide)
        obtain ⟨o8, q8⟩ := HC.out.pk.cell 8 (by decide)
        obtain ⟨o9, q9⟩ := HC.out.pk.cell 9 (by decide)
        obtain ⟨o10, q10⟩ := HC.out.pk.cell 10 (by decide)
        obtain ⟨o12, q12⟩ := HC.out.pk.cell 12 (by decide)
        have h1 := HC.out.pkt (HC.out.pk.clean (bits .and .u8 m.v 2 != 0))
        have h2 := h1.pkt (h1.pk.hasWill (bits .and .u8 m.v 4 != 0))
        have h3 := h2.pkt (h2.pk.hasPass (bits .and .u8 m.v 64 != 0))
        have h4 := h3.pkt (h3.pk.hasUser (bits .and .u8 m.v 128 != 0))
        have h5 := h4.pkt (h4.pk.willQos (wrap64 (bits .and .u8 m.v 24 / 8)))
        have h6 := h5.pkt (h5.pk.willRetain (bits .and .u8 m.v 32 != 0))
        have h7 := Aside0.mk (show Cn _ base C B Q l m.a m.f n b2 p2 by rw [HP2.out]; exact h6)
        have HF6 := Aside0.mk (Fr.q3 (Fr.q3 (Fr.q3 (Fr.q3 (Fr.q3 (Fr.q3 HF.out 2 (.bool (bits .and .u8 m.v 2 != 0))) 5 (.bool (bits .and .u8 m.v 4 != 0))) 12 (.bool (bits .and .u8 m.v 64 != 0))) 10 (.bool (bits .and .u8 m.v 128 != 0))) 8 (.int .i64 (wrap64 (bits .and .u8 m.v 24 / 8)))) 9 (.bool (bits .and .u8 m.v 32 != 0)))
        clear h1 h2 h3 h4 h5 h6 HC5 HF5 HB2 HQ HY HM HC HF
        go_upto_if 102 with (first
          | (go_at_call 34; (with_reducible refine (cn_num h7.out k HK.out).mono ?_); rintro e w6 ⟨rfl, hC, hF⟩; clear c0 qf q2 q5 q8 q9 q10 q12; have c0 := hC.c0; have qf := hC.pk.free; obtain ⟨o3, q3⟩ := hC.pk.cell 3 (by decide); have HC6 := Aside0.mk (hC.pkt (hC.pk.keep k.v)); have HF7 := Aside0.mk (Fr.q3 (Fr.b3 HF6.out hF) 3 (.int .i64 k.v)); clear hC hF h7 HF6)
          | (go_at_call 33; (with_reducible refine (cn_text HC6.out c HCL.out).mono ?_); rintro e w7 ⟨rfl, hC, hF⟩; clear c0 qf q3; have c0 := hC.c0; have qf := hC.pk.free; obtain ⟨o4, q4⟩ := hC.pk.cell 4 (by decide); have q5 : w7.cell? ⟨Q, 5, none⟩ = some (.bool s4.p.hasWill) := (by rw [HS4.out]; exact hC.pk.has.1); have HC7 := Aside0.mk (show Cn _ base C B Q l s4.a s4.f n b2 s4.p by rw [HS4.out]; exact hC.pkt (hC.pk.client c.v)); have HF8 := Aside0.mk (Fr.q3 (Fr.b3 HF7.out hF) 4 (.string c.v)); clear hC hF HC6 HF7))
        go_cut [] (fun wx => Aside0 (Cn wx base C B Q l s5.a s5.f n b2 s5.p) ∧ Aside0 (Fr (ok3 B C Q) w wx))
        case first => as_aux_lemma =>
          cases hq : s4.p.hasWill with
          | true =>
            obtain ⟨wt, hwt⟩ : ∃ wt, wt = rText l s4.a s4.f := ⟨_, rfl⟩
            obtain ⟨wd, hwd⟩ : ∃ wd, wd = rData l wt.a wt.f := ⟨_, rfl⟩
            have HE := Aside0.mk (show s5 = ⟨wd.a, wd.f, uWillPayload (uWillTopic s4.p wt.v) wd.v⟩ by rw [HS5.out]; simp only [sWill, if_pos hq, hwd, hwt])
            have HWT := Aside0.mk hwt
            have HWD := Aside0.mk hwd
            clear hwt hwd c0 qf q4 q5
            generalize hw8 : w7.setCell ⟨Q, 4, none⟩ (.string c.v) = w8 at *
            clear hw8
            have c0 := HC7.out.c0
            have HD := Aside0.mk (HC7.out.below (w1 := w8.drew) (below_drew1 (Below.refl _ _)))
            go_upto_region 12 with fail
            refine start_ (n := 20) (S := fun w' => w'.cell? ⟨C, 0, none⟩ = some (.pointer (some ⟨B, 0, none⟩))) (ds := [11, 15, 19]) #[false, false, false, false, false, false, false, false, false, false, false, false, false, false, false, false, false, false, false, false] (by kernel_rfl) rfl rfl (c0) (fun hHeld => ?_)
            refine pure_ (i := 0) (N := some 103) (v := ?_) (a' := ?_) #[true, false, false, false, false, false, false, false, false, false, false, false, false, false, false, false, false, false, false, false] rfl rfl (by kernel_rfl) (fun _ _ _ h => h) (Or.inl ⟨by rfl, ?_⟩) ?_ ?_
            rotate_left
            · intro w'
              go_simp
              with_reducible rfl
            rotate_left
            · simp only [Act.put, List.setIfInBounds_toArray, List.set_cons_zero, List.set_cons_succ, i64_w, i32_w]
              rfl
            refine pure_ (i := 1) (N := some 104) (v := ?_) (a' := ?_) #[true, true, false, false, false, false, false, false, false, false, false, false, false, false, false, false, false, false, false, false] rfl rfl (by kernel_rfl) (fun _ _ _ h => h) (Or.inl ⟨by rfl, ?_⟩) ?_ ?_
            rotate_left
            · intro w'
              go_simp
              with_reducible rfl
            rotate_left
            · simp only [Act.put, List.setIfInBounds_toArray, List.set_cons_zero, List.set_cons_succ, i64_w, i32_w]
              rfl
            refine pure_ (i := 2) (N := some 105) (v := ?_) (a' := ?_) #[true, true, true, false, false, false, false, false, false, false, false, false, false, false, false, false, false, false, false, false] rfl rfl (by kernel_rfl) (fun _ _ _ h => h) (Or.inl ⟨by rfl, ?_⟩) ?_ ?_
            rotate_left
            · intro w'
              go_simp
              with_reducible rfl
            rotate_left
            · simp only [Act.put, List.setIfInBounds_toArray, List.set_cons_zero, List.set_cons_succ, i64_w, i32_w]
              rfl
            refine pure_ (i := 3) (N := some 106) (v := ?_) (a' := ?_) #[true, true, true, true, false, false, false, false, false, false, false, false, false, false, false, false, false, false, false, false] rfl rfl (by kernel_rfl) (fun _ _ _ h => h) (Or.inl ⟨by rfl, ?_⟩) ?_ ?_
            rotate_left
            · intro w'
              go_simp
              with_reducible rfl
            rotate_left
            · simp only [Act.put, List.setIfInBounds_toArray, List.set_cons_zero, List.set_cons_succ, i64_w, i32_w]
              rfl
            refine pure_ (i := 4) (N := some 107) (v := ?_) (a' := ?_) #[true, true, true, true, true, false, false, false, false, false, false, false, false, false, false, false, false, false, false, false] rfl rfl (by kernel_rfl) (fun _ _ _ h => h) (Or.inl ⟨by rfl, ?_⟩) ?_ ?_
            rotate_left
            · intro w'
              go_simp
              with_reducible rfl
            rotate_left
            · simp only [Act.put, List.setIfInBounds_toArray, List.set_cons_zero, List.set_cons_succ, i64_w, i32_w]
              rfl
            refine pure_ (i := 7) (N := some 110) (v := ?_) (a' := ?_) #[true, true, true, true, true, false, false, true, false, false, false, false, false, false, false, false, false, false, false, false] rfl rfl (by kernel_rfl) (fun _ _ _ h => h) (Or.inl ⟨by rfl, ?_⟩) ?_ ?_
            rotate_left
            · intro w'
              go_simp
              with_reducible rfl
            rotate_left
            · simp only [Act.put, List.setIfInBounds_toArray, List.set_cons_zero, List.set_cons_succ, i64_w, i32_w]
              rfl
            refine pure_ (i := 8) (N := some 111) (v := ?_) (a' := ?_) #[true, true, true, true, true, false, false, true, true, false, false, false, false, false, false, false, false, false, false, false] rfl rfl (by kernel_rfl) (fun _ _ _ h => h) (Or.inl ⟨by rfl, ?_⟩) ?_ ?_
            rotate_left
            · intro w'
              go_simp
              with_reducible rfl
            rotate_left
            · simp only [Act.put, List.setIfInBounds_toArray, List.set_cons_zero, List.set_cons_succ, i64_w, i32_w]
              rfl
            refine pure_ (i := 9) (N := some 112) (v := ?_) (a' := ?_) #[true, true, true, true, true, false, false, true, true, true, false, false, false, false, false, false, false, false, false, false] rfl rfl (by kernel_rfl) (fun _ _ _ h => h) (Or.inl ⟨by rfl, ?_⟩) ?_ ?_
            rotate_left
            · intro w'
              go_simp
              with_reducible rfl
            rotate_left
            · simp only [Act.put, List.setIfInBounds_toArray, List.set_cons_zero, List.set_cons_succ, i64_w, i32_w]
              rfl
            refine take_ (i := 5) (N := some 108) (v := ?_) (a' := ?_) #[true, true, true, true, true, true, false, true, true, true, false, false, false, false, false, false, false, false, false, false] rfl rfl (by kernel_rfl) (fun _ _ _ h => h) (Or.inl ⟨by rfl, ?_⟩) hHeld ?_ ?_
            rotate_left
            · intro w' s0
              go_simp
              with_reducible rfl
            rotate_left
            · simp only [Act.put, List.setIfInBounds_toArray, List.set_cons_zero, List.set_cons_succ, i64_w, i32_w]
              rfl
            refine take_ (i := 10) (N := some 113) (v := ?_) (a' := ?_) #[true, true, true, true, true, true, false, true, true, true, true, false, false, false, false, false, false, false, false, false] rfl rfl (by kernel_rfl) (fun _ _ _ h => h) (Or.inl ⟨by rfl, ?_⟩) hHeld ?_ ?_
            rotate_left
            · intro w' s0
              go_simp
              with_reducible rfl
            rotate_left
            · simp only [Act.put, List.setIfInBounds_toArray, List.set_cons_zero, List.set_cons_succ, i64_w, i32_w]
              rfl
            refine one_ (i := 6) (N := some 109) #[true, true, true, true, true, true, true, true, true, true, true, false, false, false, false, false, false, false, false, false] rfl rfl (by kernel_rfl) (by decide) (fun K hK => ?_)
            refine goes_ Tryd.func33 (by kernel_rfl) rfl #[.pointer (some ⟨B, 0, none⟩)] (by rfl) rfl rfl (by simp only [List.map_toArray, List.map_cons, List.map_nil]; rfl) ?_
            with_reducible refine (cn_text HD.out wt HWT.out).mono ?_
            rintro e w8b ⟨rfl, hC8, hF8⟩
            refine ⟨_, rfl, ?_⟩
            refine hK.out _ _ (hC8.c0) (fun hHeld => ?_)
            clear hK K
            refine norm_ (a' := ?_) ?_ ?_
            rotate_left
            · show Act.put _ (some 109) _ = _
              simp only [Act.put, List.setIfInBounds_toArray, List.set_cons_zero, List.set_cons_succ, i64_w, i32_w]
              rfl
            refine last_ (i := 11) (N := some 114) #[true, true, true, true, true, true, true, true, true, true, true, true, false, false, false, false, false, false, false, false] rfl rfl (by kernel_rfl) (by decide) (fun K hK => ?_)
            refine goes_ Tryd.func49 (by kernel_rfl) rfl #[.pointer (some ⟨B, 0, none⟩)] (by rfl) rfl rfl (by simp only [List.map_toArray, List.map_cons, List.map_nil]; rfl) ?_
            with_reducible refine (cn_data hC8 wd HWD.out).mono ?_
            rintro e w9 ⟨vd, rfl, hV9, hC9, hF9⟩
            refine ⟨_, rfl, ?_⟩
            obtain ⟨Av, cv, rfl⟩ := Kd.R_slice hV9
            obtain ⟨o6, q6⟩ := hC9.pk.cell 6 (by decide)
            obtain ⟨o7, q7⟩ := hC9.pk.cell 7 (by decide)
            have qf := hC9.pk.free
            refine hK.out _ _ ?_
            clear hK K
            refine norm_ (a' := ?_) ?_ ?_
            rotate_left
            · show Act.put _ (some 114) _ = _
              simp only [Act.put, List.setIfInBounds_toArray, List.set_cons_zero, List.set_cons_succ, i64_w, i32_w]
              rfl
            refine pure_ (i := 12) (N := some 115) (v := ?_) (a' := ?_) #[true, true, true, true, true, true, true, true, true, true, true, true, true, false, false, false, false, false, false, false] rfl rfl (by kernel_rfl) (fun _ _ _ h => h) (Or.inl ⟨by rfl, ?_⟩) ?_ ?_
            rotate_left
            · intro w'
              go_simp
              with_reducible rfl
            rotate_left
            · simp only [Act.put, List.setIfInBounds_toArray, List.set_cons_zero, List.set_cons_succ, i64_w, i32_w]
              rfl
            refine pure_ (i := 13) (N := some 116) (v := ?_) (a' := ?_) #[true, true, true, true, true, true, true, true, true, true, true, true, true, true, false, false, false, false, false, false] rfl rfl (by kernel_rfl) (fun _ _ _ h => h) (Or.inl ⟨by rfl, ?_⟩) ?_ ?_
            rotate_left
            · intro w'
              go_simp
              with_reducible rfl
            rotate_left
            · simp only [Act.put, List.setIfInBounds_toArray, List.set_cons_zero, List.set_cons_succ, i64_w, i32_w]
              rfl
            refine pure_ (i := 14) (N := some 117) (v := ?_) (a' := ?_) #[true, true, true, true, true, true, true, true, true, true, true, true, true, true, true, false, false, false, false, false] rfl rfl (by kernel_rfl) (fun _ _ _ h => h) (Or.inl ⟨by rfl, ?_⟩) ?_ ?_
            rotate_left
            · intro w'
              go_simp
              with_reducible rfl
            rotate_left
            · simp only [Act.put, List.setIfInBounds_toArray, List.set_cons_zero, List.set_cons_succ, i64_w, i32_w]
              rfl
            refine last_ (i := 15) (N := none) #[true, true, true, true, true, true, true, true, true, true, true, true, true, true, true, true, false, false, false, false] rfl rfl (by kernel_rfl) (by decide) (fun K hK => ?_)
            refine skip_ (w1 := ?_) (by rfl) rfl ?_ ?_
            rotate_left
            · go_simp
              rfl
            refine hK.out _ _ ?_
            clear hK K
            refine pure_ (i := 16) (N := some 118) (v := ?_) (a' := ?_) #[true, true, true, true, true, true, true, true, true, true, true, true, true, true, true, true, true, false, false, false] rfl rfl (by kernel_rfl) (fun _ _ _ h => h) (Or.inl ⟨by rfl, ?_⟩) ?_ ?_
            rotate_left
            · intro w'
              go_simp
              with_reducible rfl
            rotate_left
            · simp only [Act.put, List.setIfInBounds_toArray, List.set_cons_zero, List.set_cons_succ, i64_w, i32_w]
              rfl
            refine pure_ (i := 17) (N := some 119) (v := ?_) (a' := ?_) #[true, true, true, true, true, true, true, true, true, true, true, true, true, true, true, true, true, true, false, false] rfl rfl (by kernel_rfl) (fun _ _ _ h => h) (Or.inl ⟨by rfl, ?_⟩) ?_ ?_
            rotate_left
            · intro w'
              go_simp
              with_reducible rfl
            rotate_left
            · simp only [Act.put, List.setIfInBounds_toArray, List.set_cons_zero, List.set_cons_succ, i64_w, i32_w]
              rfl
            refine pure_ (i := 18) (N := some 120) (v := ?_) (a' := ?_) #[true, true, true, true, true, true, true, true, true, true, true, true, true, true, true, true, true, true, true, false] rfl rfl (by kernel_rfl) (fun _ _ _ h => h) (Or.inl ⟨by rfl, ?_⟩) ?_ ?_
            rotate_left
            · intro w'
              go_simp
              with_reducible rfl
            rotate_left
            · simp only [Act.put, List.setIfInBounds_toArray, List.set_cons_zero, List.set_cons_succ, i64_w, i32_w]
              rfl
            refine last_ (i := 19) (N := none) #[true, true, true, true, true, true, true, true, true, true, true, true, true, true, true, true, true, true, true, true] rfl rfl (by kernel_rfl) (by decide) (fun K hK => ?_)
            refine skip_ (w1 := ?_) (by rfl) rfl ?_ ?_
            rotate_left
            · go_simp
              rfl
            refine hK.out _ _ ?_
            clear hK K
            refine done_ (by kernel_rfl) ?_
            have g1 := hC9.pkt (hC9.pk.willTopic wt.v)
            have g2 := g1.pkt (g1.pk.willPayload (R_frT hV9 ((Fr.refl (fun k => k = Q) w9).setCell (p := ⟨Q, 6, none⟩) (fun _ => rfl) (.string wt.v)) (fun k hk e => by
              obtain ⟨cells, hs⟩ := hC9.pk.self
              exact ⟨cells, 43, e ▸ hs, by decide⟩)))
            have HG := Aside0.mk (show Cn _ base C B Q l s5.a s5.f n b2 s5.p by rw [HE.out]; exact g2)
            have HF9 := Aside0.mk (Fr.q3 (Fr.q3 (Fr.b3 (Fr.b3 HF8.out.drew hF8) hF9) 6 (.string wt.v)) 7 (.slice Av wd.v.length cv))
            clear g1 g2 hC8 hC9 hF8 hF9 hV9
            go_wp2
            go_meet
            case rel => exact ⟨HG, HF9⟩
          | false =>
            have HE := Aside0.mk (show s5 = s4 by rw [HS5.out]; simp only [sWill]; rw [if_neg (by rw [hq]; decide)])
            go_wp2
            go_meet
            case rel => exact ⟨⟨by rw [HE.out]; exact HC7.out⟩, HF8⟩
        case rest =>
          obtain ⟨HC, HF⟩ := hcut
          clear HC7 HF8 c0 qf q4 q5
          have c0 := HC.out.c0
          obtain ⟨_, q10, _⟩ := HC.out.pk.has
          go_upto_if 124 with fail
          go_cut [] (fun wx => Aside0 (Cn wx base C B Q l s6.a s6.f n b2 s6.p) ∧ Aside0 (Fr (ok3 B C Q) w wx))
          case first => as_aux_lemma =>
            cases hq : s5.p.hasUser with
            | true =>
              obtain ⟨wt, hwt⟩ : ∃ wt, wt = rText l s5.a s5.f := ⟨_, rfl⟩
              have HE := Aside0.mk (show s6 = ⟨wt.a, wt.f, uUser s5.p wt.v⟩ by rw [HS6.out]; simp only [sUser, if_pos hq, hwt])
              have HWT := Aside0.mk hwt
              clear hwt
              go_wp2_with (go_at_call 33; (with_reducible refine (cn_text HC.out wt HWT.out).mono ?_); rintro e w9 ⟨rfl, hC, hF⟩; have qf := hC.pk.free; obtain ⟨o11, q11⟩ := hC.pk.cell 11 (by decide); have HG := Aside0.mk (show Cn _ base C B Q l s6.a s6.f n b2 s6.p by rw [HE.out]; exact hC.pkt (hC.pk.user wt.v)); have HG2 := Aside0.mk (Fr.q3 (Fr.b3 HF.out hF) 11 (.string wt.v)); clear hC hF)
              go_meet
              case rel => exact ⟨HG, HG2⟩
            | false =>
              have HE := Aside0.mk (show s6 = s5 by rw [HS6.out]; simp only [sUser]; rw [if_neg (by rw [hq]; decide)])
              go_wp2
              go_meet
              case rel => exact ⟨⟨by rw [HE.out]; exact HC.out⟩, HF⟩
          case rest =>
            obtain ⟨HC2, HF2⟩ := hcut
            clear HC HF c0 q10
            have c0 := HC2.out.c0
            obtain ⟨_, _, q12, _⟩ := HC2.out.pk.has
            go_upto_if 136 with fail
            go_cut [] (fun wx => Aside0 (Cn wx base C B Q l s7.a s7.f n b2 s7.p) ∧ Aside0 (Fr (ok3 B C Q) w wx))
            case first => as_aux_lemma =>
              cases hq : s6.p.hasPass with
              | true =>
                obtain ⟨wd, hwd⟩ : ∃ wd, wd = rData l s6.a s6.f := ⟨_, rfl⟩
                have HE := Aside0.mk (show s7 = ⟨wd.a, wd.f, uPass s6.p wd.v⟩ by rw [HS7.out]; simp only [sPass, if_pos hq, hwd])
                have HWD := Aside0.mk hwd
                clear hwd
                go_wp2_with (go_at_call 49; (with_reducible refine (cn_data HC2.out wd HWD.out).mono ?_); rintro e w9 ⟨vd, rfl, hV, hC, hF⟩; obtain ⟨Av, cv, rfl⟩ := Kd.R_slice hV; have qf := hC.pk.free; obtain ⟨o13, q13⟩ := hC.pk.cell 13 (by decide); have HG := Aside0.mk (show Cn _ base C B Q l s7.a s7.f n b2 s7.p by rw [HE.out]; exact hC.pkt (hC.pk.pass hV)); have HG2 := Aside0.mk (Fr.q3 (Fr.b3 HF2.out hF) 13 (.slice Av wd.v.length cv)); clear hC hF hV)
                go_meet
                case rel => exact ⟨HG, HG2⟩
              | false =>
                have HE := Aside0.mk (show s7 = s6 by rw [HS7.out]; simp only [sPass]; rw [if_neg (by rw [hq]; decide)])
                go_wp2
                go_meet
                case rel => exact ⟨⟨by rw [HE.out]; exact HC2.out⟩, HF2⟩
            case rest =>
              obtain ⟨HC3, HF3⟩ := hcut
              clear HC2 HF2 c0 q12
              have c0 := HC3.out.c0
              go_wp2_with (go_at_call 32; (with_reducible refine (cn_end HC3.out r8 HR8.out).mono ?_); rintro e w9 ⟨rfl, hC, hF⟩; have HG := Aside0.mk hC; have HG2 := Aside0.mk (Fr.b3 HF3.out hF); clear hC hF)
              go_end0
              exact ⟨rfl, by rw [HFIN.out, HBF.out]; exact HG.out, HG2.out⟩
end Go.Proofs.YthlbcgaegaoanaaDoor.Cr

namespace Go.Proofs.YthlbcgaegaoanaaDoor.Cr
open Go Go.RowKit Go.Proofs.YthlbcgaegaoanaaDoorW.PrintWords Go.Proofs.YthlbcgaegaoanaaDoorW.PrintLast Go.Proofs.YthlbcgaegaoanaaDoorW.PrintMore Go.Proofs.YthlbcgaegaoanaaDoor.Kinds Go.Proofs.YthlbcgaegaoanaaDoor.Utf Go.Proofs.YthlbcgaegaoanaaDoor.Chk Go.Proofs.YthlbcgaegaoanaaDoor.Rdr
set_option linter.unusedVariables false
set_option linter.unusedSimpArgs false
theorem setRow_block {w : World} {g : Nat} {old cs : Array Value} {t : TypeId} (h : w.heap[g]? = some (.cells old t (0, 0))) : (w.setRow g cs).heap[g]? = some (.cells cs t (0, 0)) := by
  simp only [World.setRow]
  rw [Array.getElem?_modify]
  simp [h]
theorem setRow_far {w : World} {g k : Nat} (h : k ≠ g) (cs : Array Value) : (w.setRow g cs).heap[k]? = w.heap[k]? := by
  simp only [World.setRow]
  rw [Array.getElem?_modify]
  rw [if_neg (fun e => h e.symm)]
theorem setRow_below {w w0 : World} {base g : Nat} (h : Below base w0 w) (hg : base ≤ g) (cs : Array Value) : Below base w0 (w.setRow g cs) := by
  refine ⟨h.os, h.tape, h.output, by simpa [World.setRow] using h.size, fun k hk => ?_⟩
  rw [← h.block k hk]
  simp only [World.setRow]
  rw [Array.getElem?_modify]
  simp [show ¬ g = k by omega]
theorem results_block {P : Program} {fn : Func} {tmps : Array Value} {w : World} {k : Nat} {t : TypeId} {g : Nat} {cs : Array Value} {d : TypeDesc} (hr : fn.results = #[.cell k t]) (hp : tmps.getD k undef = .pointer (some ⟨g, 0, none⟩)) (hg : w.heap[g]? = some (.cells cs t (0, 0)))
    (hu : P.underlying t = some d) (hd : (match d with | .struct _ | .array _ _ => true | _ => false) = true) (hi : (P.info? t).map (·.size) = some cs.size) : (results fn tmps).run P w = .ok (.agg cs) w := by
  have h := run_loadVar_row w g t t cs (0, 0) d hg hu hd hi
  have hp' : tmps[k]?.getD undef = .pointer (some ⟨g, 0, none⟩) := by rw [← hp]; simp
  simp [results, hr, hp', asAddr, h]
theorem alloc_new2 (w : World) (o1 o2 : Obj) : ((w.alloc o1).alloc o2).heap[w.heap.size + 1]? = some o2 := by
  have := heap_alloc_new (w.alloc o1) o2
  simpa using this
theorem pktSize : (Tryd.prog.info? 43).map (·.size) = some 25 := by kernel_rfl
def noCells : Array Value := (pktCells noPkt (.slice none 0 0) (.slice none 0 0) (.slice none 0 0) (.slice none 0 0) (.slice none 0 0) (.slice none 0 0)).toArray
def pKind (k : Int) : Pkt := { noPkt with kind := k }
def kCells (k : Int) : Array Value := (pktCells (pKind k) (.slice none 0 0) (.slice none 0 0) (.slice none 0 0) (.slice none 0 0) (.slice none 0 0) (.slice none 0 0)).toArray
/-! ### plain: what is read -/
structure FR where
  a : Int
  f : Option (Int × Int)
  bad : Option (Int × Int)
  p : Pkt
def fConnack (l : List Int) (p : Pkt) : FR :=
  let b := rByte l 0 none
  let c := rByte l b.a b.f
  ⟨c.a, rEnd l c.a c.f, if decide (b.v > 1) = true then cFail 0 34 b.f none else none, uCode (uPresent p (b.v == 1)) c.v⟩
def pPub (p : Pkt) (fl : Int) : Pkt := uRetain (uQos (uDup p (bits .and .i64 fl 8 != 0)) (bits .and .i64 (fl / 2) 3)) (bits .and .i64 fl 1 != 0)
def sId (l : List Int) (s : CS) : CS := if decide (s.p.msg.qos > 0) = true then ⟨(rNum l s.a s.f).a, (rNum l s.a s.f).f, uId s.p (rNum l s.a s.f).v⟩ else s
def fPublish (l : List Int) (fl : Int) (p : Pkt) : FR :=
  let t := rText l 0 none
  let s := sId l ⟨t.a, t.f, uTopic (pPub p fl) t.v⟩
  let d := rRest l s.a s.f
  ⟨d.a, d.f, none, uPayload s.p d.v⟩
def subG (l : List Int) (n : Int) : Nat → CS → CS
  | 0, s => s
  | k + 1, s => if cMore s.a s.f n none = true then subG l n k ⟨(rByte l (rText l s.a s.f).a (rText l s.a s.f).f).a, (rByte l (rText l s.a s.f).a (rText l s.a s.f).f).f, uAsks s.p (s.p.asks ++ [⟨(rText l s.a s.f).v, (rByte l (rText l s.a s.f).a (rText l s.a s.f).f).v⟩])⟩ else s
def sacG (l : List Int) (n : Int) : Nat → CS → CS
  | 0, s => s
  | k + 1, s => if cMore s.a s.f n none = true then sacG l n k ⟨(rByte l s.a s.f).a, (rByte l s.a s.f).f, uCodes s.p (s.p.codes ++ [(rByte l s.a s.f).v])⟩ else s
def unsG (l : List Int) (n : Int) : Nat → CS → CS
  | 0, s => s
  | k + 1, s => if cMore s.a s.f n none = true then unsG l n k ⟨(rText l s.a s.f).a, (rText l s.a s.f).f, uFilters s.p (s.p.filters ++ [(rText l s.a s.f).v])⟩ else s
def cId (l : List Int) (p : Pkt) : CS := ⟨(rNum l 0 none).a, (rNum l 0 none).f, uId p (rNum l 0 none).v⟩
def fFields (l : List Int) (k fl : Int) : FR :=
  if k = 1 then ⟨(cConn l 0 none (pKind 1)).a, (cConn l 0 none (pKind 1)).f, cBad l 0 none none, (cConn l 0 none (pKind 1)).p⟩
  else if k = 2 then fConnack l (pKind 2)
  else if k = 3 then fPublish l fl (pKind 3)
  else if k = 8 then (let s := subG l l.length (l.length + 1) (cId l (pKind 8)); ⟨s.a, s.f, none, s.p⟩)
  else if k = 9 then (let s := sacG l l.length (l.length + 1) (cId l (pKind 9)); ⟨s.a, s.f, none, s.p⟩)
  else if k = 10 then (let s := unsG l l.length (l.length + 1) (cId l (pKind 10)); ⟨s.a, s.f, none, s.p⟩)
  else if k = 4 ∨ k = 5 ∨ k = 6 ∨ k = 7 ∨ k = 11 then ⟨(cId l (pKind k)).a, rEnd l (cId l (pKind k)).a (cId l (pKind k)).f, none, (cId l (pKind k)).p⟩
  else ⟨0, rEnd l 0 none, none, pKind k⟩
theorem setRow_fr (w : World) (g : Nat) (cs : Array Value) : Fr (fun k => k = g) w (w.setRow g cs) :=
  ⟨rfl, rfl, rfl, by simp [World.setRow], fun k hk hn => setRow_far hn cs⟩
theorem M_frT {α : Type} {d : Kd α} {base : Nat} {ok' : Nat → Prop} {w w1 : World} {x : α} {cs : List Value} (h : d.M w base (fun _ => True) x cs) (hf : Fr ok' w w1) (hd : ∀ k, k < w.heap.size → ok' k → ∃ cells t, w.heap[k]? = some (.cells cells t (0, 0)) ∧ ∀ q, q ∈ d.E → q ≠ t) : d.M w1 base (fun _ => True) x cs :=
  d.M_mono (fun _ _ => trivial) (d.M_move (fun k hk => hf.block k hk.2.2.1 fun e0 => by
    obtain ⟨cells, t, hc, ht⟩ := hd k hk.2.2.1 e0
    obtain ⟨q, hq, cells', hc'⟩ := hk.2.2.2
    rw [hc'] at hc; injection hc with hc; injection hc with _ hc
    exact ht q hq hc) (d.M_bound h))
def okP (w2 : World) (base Q : Nat) : Nat → Prop := fun j => base ≤ j ∧ (j = Q ∨ ∀ cells, w2.heap[j]? ≠ some (.cells cells 43 (0, 0)))
theorem okP_of {w2 w : World} {base Q k : Nat} {cells : Array Value} {t : TypeId} (h : Fr (okP w2 base Q) w2 w) (hlt : k < w2.heap.size) (hk : base ≤ k) (hc : w.heap[k]? = some (.cells cells t (0, 0))) (ht : t ≠ 43) : okP w2 base Q k := by
  by_cases hq : k = Q
  · exact ⟨hk, .inl hq⟩
  · refine ⟨hk, .inr fun cells2 e => ?_⟩
    have hb := h.block k hlt (fun ⟨_, h2⟩ => h2.elim hq (fun h3 => h3 cells2 e))
    rw [e, hc] at hb
    injection hb with hb
    injection hb with _ hb
    exact ht hb
structure FieldsAt (w2 : World) (base C B Q q0 : Nat) (l : List Int) (n : Int) (r : FR) (wx : World) : Prop where
  cn : Cn wx base C B Q l r.a r.f n r.bad r.p
  q0 : wx.heap[q0]? = some (.cells noCells 43 (0, 0))
  fr : Fr (okP w2 base Q) w2 wx
section
variable {w2 w w1 wx : World} {base C B Q q0 : Nat} {l : List Int} {n : Int} {r : FR}
theorem FieldsAt.of {a2 : Int} {f2 b2 : Option (Int × Int)} {p2 : Pkt} (h2 : Cn w2 base C B Q l a2 f2 n b2 p2) (hC : Cn wx base C B Q l r.a r.f n r.bad r.p) (hF : Fr (ok3 B C Q) w2 wx) (h0 : w2.heap[q0]? = some (.cells noCells 43 (0, 0))) (hB : q0 ≠ B) (hc : q0 ≠ C) (hq : q0 ≠ Q) : FieldsAt w2 base C B Q q0 l n r wx :=
  ⟨hC, (hF.block _ (blk_lt h0) (by rintro (e | e | e) <;> omega)).trans h0, hF.mono (fun k _ e => by
    rcases e with rfl | rfl | rfl
    · refine ⟨hC.cr.rd.ge, .inr fun cells e => ?_⟩
      obtain ⟨cells2, h3⟩ := h2.cr.rd.self
      rw [h3] at e; injection e with e; injection e with _ e; exact absurd e (by decide)
    · refine ⟨hC.cr.ge, .inr fun cells e => ?_⟩
      obtain ⟨ev, h3, _⟩ := h2.cr.ex
      rw [h3] at e; injection e with e; injection e with _ e; exact absurd e (by decide)
    · exact ⟨hC.pk.ge, .inl rfl⟩)⟩
structure Lp (w2 : World) (base C B Q q0 : Nat) (l : List Int) (n : Int) (s : CS) (wr : World) : Prop where
  cn : Cn wr base C B Q l s.a s.f n none s.p
  q0 : wr.heap[q0]? = some (.cells noCells 43 (0, 0))
  fr : Fr (okP w2 base Q) w2 wr
variable {s s2 : CS}
theorem Lp.neB (h : Lp w2 base C B Q q0 l n s w) : q0 ≠ B := by
  rintro rfl
  obtain ⟨cells, hB⟩ := h.cn.cr.rd.self
  rw [h.q0] at hB; injection hB with hB; injection hB with _ hB; exact absurd hB (by decide)
theorem Lp.below (h : Lp w2 base C B Q q0 l n s w) (hb : Below w.heap.size w w1) : Lp w2 base C B Q q0 l n s w1 :=
  ⟨h.cn.below hb, (hb.block _ (blk_lt h.q0)).trans h.q0, h.fr.trans (Fr.of_below (fun _ => False) hb) (fun _ _ e => e.elim)⟩
theorem Lp.b (h : Lp w2 base C B Q q0 l n s w) (hC : Cn w1 base C B Q l s2.a s2.f n none s2.p) (hF : Fr (fun k => k = B) w w1) : Lp w2 base C B Q q0 l n s2 w1 :=
  ⟨hC, (hF.block _ (blk_lt h.q0) h.neB).trans h.q0, h.fr.trans hF (fun k hk e => by
    obtain ⟨cells, hB⟩ := h.cn.cr.rd.self
    subst e
    exact okP_of h.fr hk h.cn.cr.rd.ge hB (by decide))⟩
theorem Cn.neB {a : Int} {f bad : Option (Int × Int)} {p : Pkt} (h : Cn w base C B Q l a f n bad p) : Q ≠ B := by
  rintro rfl
  obtain ⟨cells, hB⟩ := h.cr.rd.self
  obtain ⟨cells2, hQ⟩ := h.pk.self
  rw [hQ] at hB; injection hB with hB; injection hB with _ hB; exact absurd hB (by decide)
theorem fr_cell (hF : Fr (fun k => k = B) w w1) (j : Nat) (hQ : Q < w.heap.size) (hne : Q ≠ B) : w1.cell? ⟨Q, j, none⟩ = w.cell? ⟨Q, j, none⟩ := by
  simp only [World.cell?, hF.block Q hQ hne]
theorem grown_fr {α : Type} {d : Kd α} {e : Nat} {v : Value} {xs : List α} (hR : d.R e w base (fun _ => True) v xs) (hg : w.grownBy w1 v.ownBlock) : Fr (fun k => some k = v.ownBlock) w w1 :=
  ⟨hg.os, hg.tape, hg.output, hg.size, fun k hk hn => hg.block k hk hn⟩
theorem own_is {α : Type} {d : Kd α} {e : Nat} {v : Value} {xs : List α} (hR : d.R e w base (fun _ => True) v xs) (k : Nat) (hk : some k = v.ownBlock) : base ≤ k ∧ ∃ cells, w.heap[k]? = some (.cells cells e (0, 0)) := by
  obtain ⟨inner, ho⟩ := Kd.R_own hR
  exact ⟨own_base ho k hk.symm, own_typed ho k hk.symm⟩
theorem PkIs.asksAt {p : Pkt} (h : PkIs w base Q p) : ∃ va, w.cell? ⟨Q, 22, none⟩ = some va ∧ kAsk.R 66 w base (fun _ => True) va p.asks := by
  obtain ⟨vw, vp, vm, va, vc, vf, h1, hw, hp, hm, ha, hc, hf⟩ := h.ex
  exact ⟨va, blk_cell h1 22, ha⟩
theorem PkIs.codesAt {p : Pkt} (h : PkIs w base Q p) : ∃ va, w.cell? ⟨Q, 23, none⟩ = some va ∧ (Kd.int .i64).R 3 w base (fun _ => True) va p.codes := by
  obtain ⟨vw, vp, vm, va, vc, vf, h1, hw, hp, hm, ha, hc, hf⟩ := h.ex
  exact ⟨vc, blk_cell h1 23, hc⟩
theorem PkIs.filtersAt {p : Pkt} (h : PkIs w base Q p) : ∃ va, w.cell? ⟨Q, 24, none⟩ = some va ∧ Kd.string.R 9 w base (fun _ => True) va p.filters := by
  obtain ⟨vw, vp, vm, va, vc, vf, h1, hw, hp, hm, ha, hc, hf⟩ := h.ex
  exact ⟨vf, blk_cell h1 24, hf⟩
theorem PkIs.appAsks {p : Pkt} {va v1 : Value} {xs : List AskV} (h : PkIs w base Q p) (hc0 : w.cell? ⟨Q, 22, none⟩ = some va) (hR : kAsk.R 66 w base (fun _ => True) va p.asks) (hg : w.grownBy w1 va.ownBlock) (h1 : kAsk.R 66 w1 base (fun _ => True) v1 xs) : PkIs (w1.setCell ⟨Q, 22, none⟩ v1) base Q (uAsks p xs) := by
  obtain ⟨vw, vp, vm, va', vc, vf, hQ, hw, hp, hm, ha, hc, hf⟩ := h.ex
  have hF := grown_fr hR hg
  have hT : ∀ k, k < w.heap.size → some k = va.ownBlock → ∃ cells t, w.heap[k]? = some (.cells cells t (0, 0)) ∧ t = 66 := fun k _ e => by
    obtain ⟨cells, hc⟩ := (own_is hR k e).2; exact ⟨cells, _, hc, rfl⟩
  have hQ1 : w1.heap[Q]? = some (.cells (pktCells p vw vp vm va' vc vf).toArray 43 (0, 0)) := (hF.block Q (blk_lt hQ) (fun e => by
    obtain ⟨cells, t, hc, rfl⟩ := hT Q (blk_lt hQ) e
    rw [hQ] at hc; injection hc with hc; injection hc with _ hc; exact absurd hc (by decide))).trans hQ
  exact ⟨⟨vw, vp, vm, v1, vc, vf, blk_set hQ1 22 v1, Kd.R_set (R_frT hw hF (fun k hk e => by obtain ⟨cells, t, hc, rfl⟩ := hT k hk e; exact ⟨cells, _, hc, by decide⟩)) hQ1 (by decide) 22 v1, Kd.R_set (R_frT hp hF (fun k hk e => by obtain ⟨cells, t, hc, rfl⟩ := hT k hk e; exact ⟨cells, _, hc, by decide⟩)) hQ1 (by decide) 22 v1,
    Kd.R_set (R_frT hm hF (fun k hk e => by obtain ⟨cells, t, hc, rfl⟩ := hT k hk e; exact ⟨cells, _, hc, by decide⟩)) hQ1 (by decide) 22 v1, Kd.R_set h1 hQ1 (by decide) 22 v1, Kd.R_set (R_frT hc hF (fun k hk e => by obtain ⟨cells, t, hc, rfl⟩ := hT k hk e; exact ⟨cells, _, hc, by decide⟩)) hQ1 (by decide) 22 v1,
    Kd.R_set (R_frT hf hF (fun k hk e => by obtain ⟨cells, t, hc, rfl⟩ := hT k hk e; exact ⟨cells, _, hc, by decide⟩)) hQ1 (by decide) 22 v1⟩, h.ge⟩
theorem PkIs.appCodes {p : Pkt} {va v1 : Value} {xs : List Int} (h : PkIs w base Q p) (hc0 : w.cell? ⟨Q, 23, none⟩ = some va) (hR : (Kd.int .i64).R 3 w base (fun _ => True) va p.codes) (hg : w.grownBy w1 va.ownBlock) (h1 : (Kd.int .i64).R 3 w1 base (fun _ => True) v1 xs) : PkIs (w1.setCell ⟨Q, 23, none⟩ v1) base Q (uCodes p xs) := by
  obtain ⟨vw, vp, vm, va', vc, vf, hQ, hw, hp, hm, ha, hc, hf⟩ := h.ex
  have hF := grown_fr hR hg
  have hT : ∀ k, k < w.heap.size → some k = va.ownBlock → ∃ cells t, w.heap[k]? = some (.cells cells t (0, 0)) ∧ t = 3 := fun k _ e => by
    obtain ⟨cells, hc⟩ := (own_is hR k e).2; exact ⟨cells, _, hc, rfl⟩
  have hQ1 : w1.heap[Q]? = some (.cells (pktCells p vw vp vm va' vc vf).toArray 43 (0, 0)) := (hF.block Q (blk_lt hQ) (fun e => by
    obtain ⟨cells, t, hc, rfl⟩ := hT Q (blk_lt hQ) e
    rw [hQ] at hc; injection hc with hc; injection hc with _ hc; exact absurd hc (by decide))).trans hQ
  exact ⟨⟨vw, vp, vm, va', v1, vf, blk_set hQ1 23 v1, Kd.R_set (R_frT hw hF (fun k hk e => by obtain ⟨cells, t, hc, rfl⟩ := hT k hk e; exact ⟨cells, _, hc, by decide⟩)) hQ1 (by decide) 23 v1, Kd.R_set (R_frT hp hF (fun k hk e => by obtain ⟨cells, t, hc, rfl⟩ := hT k hk e; exact ⟨cells, _, hc, by decide⟩)) hQ1 (by decide) 23 v1,
    Kd.R_set (R_frT hm hF (fun k hk e => by obtain ⟨cells, t, hc, rfl⟩ := hT k hk e; exact ⟨cells, _, hc, by decide⟩)) hQ1 (by decide) 23 v1, Kd.R_set (R_frT ha hF (fun k hk e => by obtain ⟨cells, t, hc, rfl⟩ := hT k hk e; exact ⟨cells, _, hc, by decide⟩)) hQ1 (by decide) 23 v1, Kd.R_set h1 hQ1 (by decide) 23 v1,
    Kd.R_set (R_frT hf hF (fun k hk e => by obtain ⟨cells, t, hc, rfl⟩ := hT k hk e; exact ⟨cells, _, hc, by decide⟩)) hQ1 (by decide) 23 v1⟩, h.ge⟩
theorem PkIs.appFilters {p : Pkt} {va v1 : Value} {xs : List ByteArray} (h : PkIs w base Q p) (hc0 : w.cell? ⟨Q, 24, none⟩ = some va) (hR : Kd.string.R 9 w base (fun _ => True) va p.filters) (hg : w.grownBy w1 va.ownBlock) (h1 : Kd.string.R 9 w1 base (fun _ => True) v1 xs) : PkIs (w1.setCell ⟨Q, 24, none⟩ v1) base Q (uFilters p xs) := by
  obtain ⟨vw, vp, vm, va', vc, vf, hQ, hw, hp, hm, ha, hc, hf⟩ := h.ex
  have hF := grown_fr hR hg
  have hT : ∀ k, k < w.heap.size → some k = va.ownBlock → ∃ cells t, w.heap[k]? = some (.cells cells t (0, 0)) ∧ t = 9 := fun k _ e => by
    obtain ⟨cells, hc⟩ := (own_is hR k e).2; exact ⟨cells, _, hc, rfl⟩
  have hQ1 : w1.heap[Q]? = some (.cells (pktCells p vw vp vm va' vc vf).toArray 43 (0, 0)) := (hF.block Q (blk_lt hQ) (fun e => by
    obtain ⟨cells, t, hc, rfl⟩ := hT Q (blk_lt hQ) e
    rw [hQ] at hc; injection hc with hc; injection hc with _ hc; exact absurd hc (by decide))).trans hQ
  exact ⟨⟨vw, vp, vm, va', vc, v1, blk_set hQ1 24 v1, Kd.R_set (R_frT hw hF (fun k hk e => by obtain ⟨cells, t, hc, rfl⟩ := hT k hk e; exact ⟨cells, _, hc, by decide⟩)) hQ1 (by decide) 24 v1, Kd.R_set (R_frT hp hF (fun k hk e => by obtain ⟨cells, t, hc, rfl⟩ := hT k hk e; exact ⟨cells, _, hc, by decide⟩)) hQ1 (by decide) 24 v1,
    Kd.R_set (R_frT hm hF (fun k hk e => by obtain ⟨cells, t, hc, rfl⟩ := hT k hk e; exact ⟨cells, _, hc, by decide⟩)) hQ1 (by decide) 24 v1, Kd.R_set (R_frT ha hF (fun k hk e => by obtain ⟨cells, t, hc, rfl⟩ := hT k hk e; exact ⟨cells, _, hc, by decide⟩)) hQ1 (by decide) 24 v1, Kd.R_set (R_frT hc hF (fun k hk e => by obtain ⟨cells, t, hc, rfl⟩ := hT k hk e; exact ⟨cells, _, hc, by decide⟩)) hQ1 (by decide) 24 v1,
    Kd.R_set h1 hQ1 (by decide) 24 v1⟩, h.ge⟩
theorem Lp.app {α : Type} {d : Kd α} {e : Nat} {v v1 : Value} {xs : List α} {j : Nat} (h : Lp w2 base C B Q q0 l n s w) (hR : d.R e w base (fun _ => True) v xs) (hg : w.grownBy w1 v.ownBlock) (he : e ≠ 5 ∧ e ≠ 92 ∧ e ≠ 61 ∧ e ≠ 73 ∧ e ≠ 43) (hne : q0 ≠ Q) (hp : PkIs (w1.setCell ⟨Q, j, none⟩ v1) base Q s2.p) (ea : s2.a = s.a) (ef : s2.f = s.f) : Lp w2 base C B Q q0 l n s2 (w1.setCell ⟨Q, j, none⟩ v1) := by
  have hF := grown_fr hR hg
  have hQ1 : ∃ cells, w1.heap[Q]? = some (.cells cells 43 (0, 0)) := by
    obtain ⟨cells, hQ⟩ := h.cn.pk.self
    refine ⟨cells, (hF.block Q (blk_lt hQ) (fun e0 => ?_)).trans hQ⟩
    obtain ⟨cells2, hc⟩ := (own_is hR Q e0).2
    rw [hQ] at hc; injection hc with hc; injection hc with _ hc; exact he.2.2.2.2 hc.symm
  obtain ⟨cellsQ, hQ1⟩ := hQ1
  have hcr : CrIs w1 base C B l s.a s.f n none := h.cn.cr.fr hF (fun k hk e0 => by
    obtain ⟨cells, hc⟩ := (own_is hR k e0).2
    exact ⟨cells, e, hc, he.1, he.2.1, he.2.2.1, he.2.2.2.1⟩)
  have hs := (Fr.refl (fun k => k = Q) w1).setCell (p := ⟨Q, j, none⟩) (fun _ => rfl) v1
  refine ⟨⟨?_, hp⟩, ?_, (h.fr.trans hF (fun k hk e0 => by
    obtain ⟨hb, cells, hc⟩ := own_is hR k e0
    exact okP_of h.fr hk hb hc he.2.2.2.2)).trans hs (fun k _ e0 => ⟨e0 ▸ h.cn.pk.ge, .inl e0⟩)⟩
  · rw [ea, ef]
    exact hcr.fr hs (fun k hk e0 => ⟨cellsQ, 43, e0 ▸ hQ1, by decide, by decide, by decide, by decide⟩)
  · refine (hs.block q0 ?_ hne).trans ((hF.block q0 (blk_lt h.q0) (fun e0 => ?_)).trans h.q0)
    · exact Nat.lt_of_lt_of_le (blk_lt h.q0) hF.size
    · obtain ⟨cells, hc⟩ := (own_is hR q0 e0).2
      rw [h.q0] at hc; injection hc with hc; injection hc with _ hc; exact he.2.2.2.2 hc.symm
theorem Lp.pkt (h : Lp w2 base C B Q q0 l n s w) (hne : q0 ≠ Q) {j : Nat} {u : Value} (hp : PkIs (w.setCell ⟨Q, j, none⟩ u) base Q s2.p) (ea : s2.a = s.a) (ef : s2.f = s.f) : Lp w2 base C B Q q0 l n s2 (w.setCell ⟨Q, j, none⟩ u) := by
  have hs := (Fr.refl (fun k => k = Q) w).setCell (p := ⟨Q, j, none⟩) (fun _ => rfl) u
  have hc := h.cn.pkt hp
  exact ⟨by rw [ea, ef]; exact hc, (hs.block q0 (blk_lt h.q0) hne).trans h.q0, h.fr.trans hs (fun k _ e0 => ⟨e0 ▸ h.cn.pk.ge, .inl e0⟩)⟩
end
def mS (l : List Int) (s : CS) : Nat := if s.f.isSome then 0 else (l.length : Int).toNat - s.a.toNat + 1
theorem askInfo : (Tryd.prog.info? 66).map (fun i => (i.zero, i.size, i.bytes)) = some (some (.agg #[.string ⟨#[]⟩, .int .i64 0]), 2, 24) := by kernel_rfl
theorem intInfo : (Tryd.prog.info? 3).map (fun i => (i.zero, i.size, i.bytes)) = some (some (.int .i64 0), 1, 8) := by kernel_rfl
theorem strInfo : (Tryd.prog.info? 9).map (fun i => (i.zero, i.size, i.bytes)) = some (some (.string ⟨#[]⟩), 1, 16) := by kernel_rfl
theorem mS_text (l : List Int) (a : Int) (p p2 : Pkt) (hw : ∀ x ∈ l, 0 ≤ x ∧ x ≤ 255) (h0 : 0 ≤ a) (h1 : a < l.length) : mS l ⟨(rText l a none).a, (rText l a none).f, p2⟩ < mS l ⟨a, none, p⟩ := by
  unfold rText
  rw [if_neg (by simp)]
  by_cases hl : a + 2 ≤ l.length
  · rw [if_pos hl]
    have hr := two_range l a hw h0 hl
    by_cases hl2 : a + 2 + joinG ((l.drop a.toNat).take 2) ≤ l.length
    · rw [if_pos hl2]
      by_cases hc : (chk (strOfNums ((l.drop (a + 2).toNat).take (joinG ((l.drop a.toNat).take 2)).toNat))).2 = 0
      · rw [if_pos hc]; simp only [mS]; rw [if_neg (by simp), if_neg (by simp)]; omega
      · rw [if_neg hc]; simp [mS]
    · rw [if_neg hl2]; simp [mS]
  · rw [if_neg hl]; simp [mS]
theorem mS_byte (l : List Int) (a : Int) (f : Option (Int × Int)) (p p2 : Pkt) : mS l ⟨(rByte l a f).a, (rByte l a f).f, p2⟩ ≤ mS l ⟨a, f, p⟩ := by
  unfold rByte
  by_cases h : f.isSome = true
  · rw [if_pos h]; simp [mS, h]
  · rw [if_neg h]
    by_cases h1 : a + 1 ≤ l.length
    · rw [if_pos h1]; simp only [mS]; rw [if_neg (by simp), if_neg h]; omega
    · rw [if_neg h1]; simp [mS]
theorem mS_byte1 (l : List Int) (a : Int) (p p2 : Pkt) (h0 : 0 ≤ a) (h1 : a < l.length) : mS l ⟨(rByte l a none).a, (rByte l a none).f, p2⟩ < mS l ⟨a, none, p⟩ := by
  unfold rByte
  rw [if_neg (by simp), if_pos (by omega)]
  simp only [mS]; rw [if_neg (by simp), if_neg (by simp)]; omega
theorem cMore_true {a n : Int} {f : Option (Int × Int)} (h : cMore a f n none = true) : f = none ∧ a < n := by
  cases f <;> simp_all [cMore]
def SubLp (w2 : World) (base C B Q q0 : Nat) (l : List Int) (n : Int) (sF : CS) (q : Nat) (wr : World) : Prop :=
  ∃ s : CS, Lp w2 base C B Q q0 l n s wr ∧ subG l n q s = sF ∧ mS l s ≤ q ∧ s.p.asks.length + q ≤ l.length + 1
def SacLp (w2 : World) (base C B Q q0 : Nat) (l : List Int) (n : Int) (sF : CS) (q : Nat) (wr : World) : Prop :=
  ∃ s : CS, Lp w2 base C B Q q0 l n s wr ∧ sacG l n q s = sF ∧ mS l s ≤ q ∧ s.p.codes.length + q ≤ l.length + 1
def UnsLp (w2 : World) (base C B Q q0 : Nat) (l : List Int) (n : Int) (sF : CS) (q : Nat) (wr : World) : Prop :=
  ∃ s : CS, Lp w2 base C B Q q0 l n s wr ∧ unsG l n q s = sF ∧ mS l s ≤ q ∧ s.p.filters.length + q ≤ l.length + 1
end Go.Proofs.YthlbcgaegaoanaaDoor.Cr

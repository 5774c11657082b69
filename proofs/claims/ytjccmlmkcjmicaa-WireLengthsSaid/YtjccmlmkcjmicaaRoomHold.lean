/- The walks of crierroom.Room.Hold where only lists of bytes were asked: no mark written over, it tells true and turns nothing. -/
import Derived.Test.YtjccmlmkcjmicaaRoom
namespace Go.Proofs.Ytjccmlmkcjmicaa.Room
open Go Go.RowKit Go.Proofs.YtjccmlmkcjmicaaW.PrintWords
set_option linter.unusedVariables false
set_option linter.unusedSimpArgs false

theorem holdInts_any (B : Nat) (v0 v1 : Value) (w : World) (hB : w.heap[B]? = some (.cells (roomCells v0 v1) 44 (0, 0))) :
    Calls Try.prog 44 #[.pointer (some ⟨B, 0, none⟩)] w fun e w' => e = .returned (.bool true) ∧ w = w' := by
  have hc : w.cell? ⟨B, 2, none⟩ = some (.slice none 0 0) := blk_cell hB 2
  clear hB
  go_enter Try.func44, Try.ntmps44
  go_wp2_with fail
  refine wp_loop_rounds 1 ?_
  rw [rounds_succ]
  go_wp2
  go_ret
  exact ⟨rfl, rfl⟩
theorem holdTexts_any (B : Nat) (v0 v1 : Value) (w : World) (hB : w.heap[B]? = some (.cells (roomCells v0 v1) 44 (0, 0))) :
    Calls Try.prog 45 #[.pointer (some ⟨B, 0, none⟩)] w fun e w' => e = .returned (.bool true) ∧ w = w' := by
  have hc : w.cell? ⟨B, 4, none⟩ = some (.slice none 0 0) := blk_cell hB 4
  clear hB
  go_enter Try.func45, Try.ntmps45
  go_wp2_with fail
  refine wp_loop_rounds 1 ?_
  rw [rounds_succ]
  go_wp2
  go_ret
  exact ⟨rfl, rfl⟩
theorem holdAsks_any (B : Nat) (v0 v1 : Value) (w : World) (hB : w.heap[B]? = some (.cells (roomCells v0 v1) 44 (0, 0))) :
    Calls Try.prog 46 #[.pointer (some ⟨B, 0, none⟩)] w fun e w' => e = .returned (.bool true) ∧ w = w' := by
  have hc : w.cell? ⟨B, 6, none⟩ = some (.slice none 0 0) := blk_cell hB 6
  clear hB
  go_enter Try.func46, Try.ntmps46
  go_wp2_with fail
  refine wp_loop_rounds 1 ?_
  rw [rounds_succ]
  go_wp2
  go_ret
  exact ⟨rfl, rfl⟩
theorem holdUsers_any (B : Nat) (v0 v1 : Value) (w : World) (hB : w.heap[B]? = some (.cells (roomCells v0 v1) 44 (0, 0))) :
    Calls Try.prog 47 #[.pointer (some ⟨B, 0, none⟩)] w fun e w' => e = .returned (.bool true) ∧ w = w' := by
  have hc : w.cell? ⟨B, 8, none⟩ = some (.slice none 0 0) := blk_cell hB 8
  clear hB
  go_enter Try.func47, Try.ntmps47
  go_wp2_with fail
  refine wp_loop_rounds 1 ?_
  rw [rounds_succ]
  go_wp2
  go_ret
  exact ⟨rfl, rfl⟩
theorem holdWhos_any (B : Nat) (v0 v1 : Value) (w : World) (hB : w.heap[B]? = some (.cells (roomCells v0 v1) 44 (0, 0))) :
    Calls Try.prog 48 #[.pointer (some ⟨B, 0, none⟩)] w fun e w' => e = .returned (.bool true) ∧ w = w' := by
  have hc : w.cell? ⟨B, 10, none⟩ = some (.slice none 0 0) := blk_cell hB 10
  clear hB
  go_enter Try.func48, Try.ntmps48
  go_wp2_with fail
  refine wp_loop_rounds 1 ?_
  rw [rounds_succ]
  go_wp2
  go_ret
  exact ⟨rfl, rfl⟩
theorem holdChunks_any (B : Nat) (v0 v1 : Value) (w : World) (hB : w.heap[B]? = some (.cells (roomCells v0 v1) 44 (0, 0))) :
    Calls Try.prog 49 #[.pointer (some ⟨B, 0, none⟩)] w fun e w' => e = .returned (.bool true) ∧ w = w' := by
  have hc : w.cell? ⟨B, 12, none⟩ = some (.slice none 0 0) := blk_cell hB 12
  clear hB
  go_enter Try.func49, Try.ntmps49
  go_wp2_with fail
  refine wp_loop_rounds 1 ?_
  rw [rounds_succ]
  go_wp2
  go_ret
  exact ⟨rfl, rfl⟩
theorem holdMessages_any (B : Nat) (v0 v1 : Value) (w : World) (hB : w.heap[B]? = some (.cells (roomCells v0 v1) 44 (0, 0))) :
    Calls Try.prog 50 #[.pointer (some ⟨B, 0, none⟩)] w fun e w' => e = .returned (.bool true) ∧ w = w' := by
  have hc : w.cell? ⟨B, 14, none⟩ = some (.slice none 0 0) := blk_cell hB 14
  clear hB
  go_enter Try.func50, Try.ntmps50
  go_wp2_with fail
  refine wp_loop_rounds 1 ?_
  rw [rounds_succ]
  go_wp2
  go_ret
  exact ⟨rfl, rfl⟩
theorem holdFlights_any (B : Nat) (v0 v1 : Value) (w : World) (hB : w.heap[B]? = some (.cells (roomCells v0 v1) 44 (0, 0))) :
    Calls Try.prog 51 #[.pointer (some ⟨B, 0, none⟩)] w fun e w' => e = .returned (.bool true) ∧ w = w' := by
  have hc : w.cell? ⟨B, 16, none⟩ = some (.slice none 0 0) := blk_cell hB 16
  clear hB
  go_enter Try.func51, Try.ntmps51
  go_wp2_with fail
  refine wp_loop_rounds 1 ?_
  rw [rounds_succ]
  go_wp2
  go_ret
  exact ⟨rfl, rfl⟩
theorem holdPackets_any (B : Nat) (v0 v1 : Value) (w : World) (hB : w.heap[B]? = some (.cells (roomCells v0 v1) 44 (0, 0))) :
    Calls Try.prog 52 #[.pointer (some ⟨B, 0, none⟩)] w fun e w' => e = .returned (.bool true) ∧ w = w' := by
  have hc : w.cell? ⟨B, 18, none⟩ = some (.slice none 0 0) := blk_cell hB 18
  clear hB
  go_enter Try.func52, Try.ntmps52
  go_wp2_with fail
  refine wp_loop_rounds 1 ?_
  rw [rounds_succ]
  go_wp2
  go_ret
  exact ⟨rfl, rfl⟩
theorem holdInputs_any (B : Nat) (v0 v1 : Value) (w : World) (hB : w.heap[B]? = some (.cells (roomCells v0 v1) 44 (0, 0))) :
    Calls Try.prog 53 #[.pointer (some ⟨B, 0, none⟩)] w fun e w' => e = .returned (.bool true) ∧ w = w' := by
  have hc : w.cell? ⟨B, 20, none⟩ = some (.slice none 0 0) := blk_cell hB 20
  clear hB
  go_enter Try.func53, Try.ntmps53
  go_wp2_with fail
  refine wp_loop_rounds 1 ?_
  rw [rounds_succ]
  go_wp2
  go_ret
  exact ⟨rfl, rfl⟩
theorem holdEvents_any (B : Nat) (v0 v1 : Value) (w : World) (hB : w.heap[B]? = some (.cells (roomCells v0 v1) 44 (0, 0))) :
    Calls Try.prog 54 #[.pointer (some ⟨B, 0, none⟩)] w fun e w' => e = .returned (.bool true) ∧ w = w' := by
  have hc : w.cell? ⟨B, 22, none⟩ = some (.slice none 0 0) := blk_cell hB 22
  clear hB
  go_enter Try.func54, Try.ntmps54
  go_wp2_with fail
  refine wp_loop_rounds 1 ?_
  rw [rounds_succ]
  go_wp2
  go_ret
  exact ⟨rfl, rfl⟩
theorem holdSessions_any (B : Nat) (v0 v1 : Value) (w : World) (hB : w.heap[B]? = some (.cells (roomCells v0 v1) 44 (0, 0))) :
    Calls Try.prog 55 #[.pointer (some ⟨B, 0, none⟩)] w fun e w' => e = .returned (.bool true) ∧ w = w' := by
  have hc : w.cell? ⟨B, 24, none⟩ = some (.slice none 0 0) := blk_cell hB 24
  clear hB
  go_enter Try.func55, Try.ntmps55
  go_wp2_with fail
  refine wp_loop_rounds 1 ?_
  rw [rounds_succ]
  go_wp2
  go_ret
  exact ⟨rfl, rfl⟩
theorem holdSteps_any (B : Nat) (v0 v1 : Value) (w : World) (hB : w.heap[B]? = some (.cells (roomCells v0 v1) 44 (0, 0))) :
    Calls Try.prog 56 #[.pointer (some ⟨B, 0, none⟩)] w fun e w' => e = .returned (.bool true) ∧ w = w' := by
  have hc : w.cell? ⟨B, 26, none⟩ = some (.slice none 0 0) := blk_cell hB 26
  clear hB
  go_enter Try.func56, Try.ntmps56
  go_wp2_with fail
  refine wp_loop_rounds 1 ?_
  rw [rounds_succ]
  go_wp2
  go_ret
  exact ⟨rfl, rfl⟩
theorem holdServeds_any (B : Nat) (v0 v1 : Value) (w : World) (hB : w.heap[B]? = some (.cells (roomCells v0 v1) 44 (0, 0))) :
    Calls Try.prog 57 #[.pointer (some ⟨B, 0, none⟩)] w fun e w' => e = .returned (.bool true) ∧ w = w' := by
  have hc : w.cell? ⟨B, 28, none⟩ = some (.slice none 0 0) := blk_cell hB 28
  clear hB
  go_enter Try.func57, Try.ntmps57
  go_wp2_with fail
  refine wp_loop_rounds 1 ?_
  rw [rounds_succ]
  go_wp2
  go_ret
  exact ⟨rfl, rfl⟩
theorem holdRules_any (B : Nat) (v0 v1 : Value) (w : World) (hB : w.heap[B]? = some (.cells (roomCells v0 v1) 44 (0, 0))) :
    Calls Try.prog 58 #[.pointer (some ⟨B, 0, none⟩)] w fun e w' => e = .returned (.bool true) ∧ w = w' := by
  have hc : w.cell? ⟨B, 30, none⟩ = some (.slice none 0 0) := blk_cell hB 30
  clear hB
  go_enter Try.func58, Try.ntmps58
  go_wp2_with fail
  refine wp_loop_rounds 1 ?_
  rw [rounds_succ]
  go_wp2
  go_ret
  exact ⟨rfl, rfl⟩
theorem holdChanges_any (B : Nat) (v0 v1 : Value) (w : World) (hB : w.heap[B]? = some (.cells (roomCells v0 v1) 44 (0, 0))) :
    Calls Try.prog 59 #[.pointer (some ⟨B, 0, none⟩)] w fun e w' => e = .returned (.bool true) ∧ w = w' := by
  have hc : w.cell? ⟨B, 32, none⟩ = some (.slice none 0 0) := blk_cell hB 32
  clear hB
  go_enter Try.func59, Try.ntmps59
  go_wp2_with fail
  refine wp_loop_rounds 1 ?_
  rw [rounds_succ]
  go_wp2
  go_ret
  exact ⟨rfl, rfl⟩

set_option maxRecDepth 100000 in
set_option maxHeartbeats 2000000 in
theorem hold_any (base B : Nat) (v0 v1 : Value) (vs : List Value) (ns : List Int) (w : World)
    (hB : w.heap[B]? = some (.cells (roomCells v0 v1) 44 (0, 0))) (h0 : w.ownsRow base 23 1 v0 vs.length vs) (h1 : w.ownsRow base 3 1 v1 ns.length (nums .i64 ns))
    (hl : ns.length = vs.length) (hvs : vs.length ≤ 1099511627776) (hm : ∀ j, j < vs.length → Marked w (vs.getD j nl) (ns.getD j 0)) :
    Calls Try.prog 19 #[.pointer (some ⟨B, 0, none⟩)] w fun e w' => e = .returned (.bool true) ∧ w = w' := by
  have HC := Aside0.mk (holdBytes_any base B v0 v1 vs ns w hB h0 h1 hl hvs hm)
  have HB := Aside0.mk hB
  clear hB h0 h1 hl hm
  go_enter Try.func19, Try.ntmps19
  go_wp2_with (first | (go_at_call 43; refine HC.out.mono ?_; rintro e w' ⟨rfl, rfl⟩) | (go_at_call 44; refine (holdInts_any B v0 v1 _ HB.out).mono ?_; rintro e w' ⟨rfl, rfl⟩) | (go_at_call 45; refine (holdTexts_any B v0 v1 _ HB.out).mono ?_; rintro e w' ⟨rfl, rfl⟩) | (go_at_call 46; refine (holdAsks_any B v0 v1 _ HB.out).mono ?_; rintro e w' ⟨rfl, rfl⟩) | (go_at_call 47; refine (holdUsers_any B v0 v1 _ HB.out).mono ?_; rintro e w' ⟨rfl, rfl⟩) | (go_at_call 48; refine (holdWhos_any B v0 v1 _ HB.out).mono ?_; rintro e w' ⟨rfl, rfl⟩) | (go_at_call 49; refine (holdChunks_any B v0 v1 _ HB.out).mono ?_; rintro e w' ⟨rfl, rfl⟩) | (go_at_call 50; refine (holdMessages_any B v0 v1 _ HB.out).mono ?_; rintro e w' ⟨rfl, rfl⟩) | (go_at_call 51; refine (holdFlights_any B v0 v1 _ HB.out).mono ?_; rintro e w' ⟨rfl, rfl⟩) | (go_at_call 52; refine (holdPackets_any B v0 v1 _ HB.out).mono ?_; rintro e w' ⟨rfl, rfl⟩) | (go_at_call 53; refine (holdInputs_any B v0 v1 _ HB.out).mono ?_; rintro e w' ⟨rfl, rfl⟩) | (go_at_call 54; refine (holdEvents_any B v0 v1 _ HB.out).mono ?_; rintro e w' ⟨rfl, rfl⟩) | (go_at_call 55; refine (holdSessions_any B v0 v1 _ HB.out).mono ?_; rintro e w' ⟨rfl, rfl⟩) | (go_at_call 56; refine (holdSteps_any B v0 v1 _ HB.out).mono ?_; rintro e w' ⟨rfl, rfl⟩) | (go_at_call 57; refine (holdServeds_any B v0 v1 _ HB.out).mono ?_; rintro e w' ⟨rfl, rfl⟩) | (go_at_call 58; refine (holdRules_any B v0 v1 _ HB.out).mono ?_; rintro e w' ⟨rfl, rfl⟩) | (go_at_call 59; refine (holdChanges_any B v0 v1 _ HB.out).mono ?_; rintro e w' ⟨rfl, rfl⟩))
  go_ret
  exact ⟨rfl, rfl⟩
end Go.Proofs.Ytjccmlmkcjmicaa.Room

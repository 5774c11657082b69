/- WireLengths holds: for every list of bytes the program and the document tell the same length, and the bytes read as they did. No condition. -/
import Derived.Test.YtjccmlmkcjmicaaRows
import Derived.Test.YtjccmlmkcjmicaaRoomHold
import Derived.Test.YtjccmlmkcjmicaaLen
import Derived.ProofKit
import Derived.OpenShut
import Derived.ChangeOld
namespace Go.Proofs.Ytjccmlmkcjmicaa.wireLengths
open Go.ChangeShapes Go.WideShapes Go.ChangeAt Go.RowKit Go.Proofs.Ytjccmlmkcjmicaa.Room Go.Proofs.Ytjccmlmkcjmicaa.Len Go.Proofs.Ytjccmlmkcjmicaa.PWireLengths Go.Proofs.YtjccmlmkcjmicaaW.PrintWords
set_option linter.unusedVariables false

theorem own : ownKnob Try.prog.godebug = none := by kernel_rfl
theorem laidOut : laidOutB Try.prog = true := by kernel_rfl

theorem C_of_int {w : World} {k : IntKind} {A : Option Addr} {n : Nat} {xs : List Int} (h : ReadsInt w k A n xs) : Kd.C (Kd.int k) w A n xs := Kd.C_of_reads (d := (0 : Int)) h
theorem marked_of {w : World} {b : Nat} {g n cap : Nat} {xs : List Int} (hl : xs.length = n) (hn : n ≤ 200000) (h : w.ownsRow b 5 1 (.slice (some ⟨g, 0, none⟩) (n + 600) cap) (n + 600) (nums .u8 (xs ++ marks 600))) :
    Marked w (.slice (some ⟨g, 0, none⟩) (n + 600) cap) (n : Int) := by
  refine ⟨n, g, n + 600, cap, rfl, rfl, by omega, by omega, by omega, fun i h1 h2 => ?_⟩
  have hi : i - n < 600 := by omega
  have := h.cells (g := g) rfl i (.int .u8 (markB (i - n))) (by
    simp only [nums, List.getElem?_map]
    rw [List.getElem?_append_right (by omega), hl]
    simp [marks, hi])
  rwa [Go.Proofs.YtjccmlmkcjmicaaW.PrintWords.add_plain] at this
theorem reads_of {w : World} {b : Nat} {g n cap m : Nat} {xs ys : List Int} (hl : xs.length = n) (hn : n ≤ 200000) (h : w.ownsRow b 5 1 (.slice (some ⟨g, 0, none⟩) m cap) m (nums .u8 (xs ++ ys))) :
    ReadsInt w .u8 (some ⟨g, 0, none⟩) n xs := by
  refine ⟨hl, by omega, fun _ => ⟨_, rfl, fun j hj => h.cells (g := g) rfl j _ ?_⟩⟩
  simp only [nums, List.getElem?_map]
  rw [List.getElem?_append_left (by omega), List.getD_eq_getElem?_getD, List.getElem?_eq_getElem (by omega)]
  rfl

/-- where the law stands behind the copy: the room, its two rows, the copy -/
structure St (w0 w : World) (B g n cap : Nat) (v0 v1 : Value) (xs : List Int) : Prop where
  row : w.ownsRow (w0.heap.size + 1) 5 1 (.slice (some ⟨g, 0, none⟩) (n + 600) cap) (n + 600) (nums .u8 (xs ++ marks 600))
  blk : w.heap[B]? = some (.cells (roomCells v0 v1) 44 (0, 0))
  own0 : w.ownsRow w0.heap.size 23 1 v0 1 [Value.slice (some ⟨g, 0, none⟩) (n + 600) cap]
  own1 : w.ownsRow w0.heap.size 3 1 v1 1 (nums .i64 [(n : Int)])
  below : Below w0.heap.size w0 w
theorem St.drawn {w0 w w' : World} {B g n cap : Nat} {v0 v1 : Value} {xs : List Int} (h : St w0 w B g n cap v0 v1 xs) (hd : Drawn0 w w') : St w0 w' B g n cap v0 v1 xs := by
  obtain ⟨k, rfl⟩ := hd
  exact ⟨h.row, h.blk, h.own0, h.own1, pw_below_drewN h.below k⟩

set_option maxRecDepth 100000 in
set_option maxHeartbeats 2000000 in
theorem walk (A : Option Addr) (c : Nat) (xs : List Int) (w : World) (hr : ReadsInt w .u8 A xs.length xs) (hw : ∀ x ∈ xs, 0 ≤ x ∧ x ≤ 255) (hc : xs.length ≤ c) :
    Calls Try.prog 8 #[.slice A xs.length c] w fun e w' => e = .returned (.bool true) ∧ Below w.heap.size w w' := by
  by_cases hl : 140000 < xs.length
  · clear hr hw
    go_enter Try.func8, Try.ntmps8
    go_wp2
    go_ret
    exact ⟨rfl, Below.refl _ _⟩
  · obtain ⟨r1, r2, r3, hs⟩ : ∃ r1 r2 r3, lenS xs = (r1, r2, r3) := ⟨_, _, _, rfl⟩
    have H1 := Aside0.mk ((wire_len xs hw).trans (congrArg some hs))
    have H2 := Aside0.mk ((ref_len xs hw).trans (congrArg some hs))
    have HW := Aside0.mk hw
    have HR := Aside0.mk hr
    clear hs hw hr
    have eq1 : ((r1 : Int) == r1) = true := by simp
    have eq2 : ((r2 : Int) == r2) = true := by simp
    have eq3 : ((r3 : Int) == r3) = true := by simp
    have hsame : crierlaw1_same.f xs xs = some true := by unfold crierlaw1_same.f; simp
    have HS := Aside0.mk hsame
    clear hsame
    go_enter Try.func8, Try.ntmps8
    go_wp2_with fail
    refine (bytes_any w.heap.size w.heap.size xs.length c A xs nl nl [] [] w _ ((Below.refl _ _).alloc (Nat.le_refl _) _) (Nat.le_refl _) (heap_alloc_new w _) (own_nil _ _ _ _) (own_nil _ _ _ _) (HR.out.below ((Below.refl _ _).alloc (Nat.le_refl _) _)) (by omega) (by simp) (by simp)).mono ?_
    rintro e w1 ⟨g, cap, v0, v1, rfl, hg, hrow, hB, h0, h1, hb, _⟩
    have S1 := Aside0.mk (show St w w1 w.heap.size g xs.length cap v0 v1 xs from ⟨by simpa using hrow, hB, by simpa using h0, by simpa using h1, hb⟩)
    clear hrow hB h0 h1 hb hg
    go_wp2_with fail
    refine (wire_Length.calls 5 (some ⟨g, 0, none⟩) (xs.length + 600) xs r1 r2 r3 _ (C_of_int (reads_of rfl (by omega) S1.out.row)) (by omega) H1.out).mono ?_
    rintro e w2 ⟨rfl, hd⟩
    have S2 := Aside0.mk (S1.out.drawn hd)
    clear S1 hd
    go_wp2_with fail
    refine (crierref1_Length.calls 5 A c xs r1 r2 r3 _ (C_of_int (HR.out.below S2.out.below)) hc H2.out).mono ?_
    rintro e w3 ⟨rfl, hd⟩
    have S3 := Aside0.mk (S2.out.drawn hd)
    clear S2 hd
    go_wp2_with fail
    refine (crierlaw1_num.calls r3 r3 _ rfl).mono ?_
    rintro e w4 ⟨rfl, hd⟩
    have S4 := Aside0.mk (S3.out.drawn hd)
    clear S3 hd
    go_wp2_with fail
    refine (crierlaw1_same.calls (some ⟨g, 0, none⟩) (xs.length + 600) xs A c xs true _ (C_of_int (reads_of rfl (by omega) S4.out.row)) (by omega) (C_of_int (HR.out.below S4.out.below)) hc HS.out).mono ?_
    rintro e w5 ⟨rfl, hd⟩
    have S5 := Aside0.mk (S4.out.drawn hd)
    clear S4 hd
    go_wp2_with fail
    refine (hold_any w.heap.size w.heap.size v0 v1 [.slice (some ⟨g, 0, none⟩) (xs.length + 600) cap] [(xs.length : Int)] _ S5.out.blk (by simpa using S5.out.own0) (by simpa using S5.out.own1) rfl (by simp) (fun j hj => ?_)).mono ?_
    · obtain rfl : j = 0 := by simpa using hj
      exact marked_of rfl (by omega) S5.out.row
    rintro e w6 ⟨rfl, rfl⟩
    go_wp2
    go_ret
    exact ⟨rfl, S5.out.below⟩

set_option maxRecDepth 100000 in
theorem lifted (os : Os) (started : os.Started) (H : Type) (enc : TypeId × Value → H) :
    ReturnsInHanded {} Try.checked os 8 .any (Rows.wireLengthsSpec.pre6 enc Try.prog Try.f8 Rows.wireLengthsRow.domain false) (Rows.wireLengthsSpec.post enc Try.prog Try.f8 false true false false) := by
  refine returnsInHanded_of_change (C := Try.checked) own started (by kernel_rfl) Try.func8
    (ChangeSpec.witness6 (enc := enc) (C := Try.checked) false ⟨#[], #[.slice none 0 0], []⟩ 8 (by kernel_rfl) (by kernel_rfl) (by kernel_rfl) (by kernel_rfl)) ?_
  intro W base args ds gs before hval0 hW hcnd _
  have hval : ∀ (j : Nat) t v, Try.f8.params[j]? = some t → args[j]? = some v → Value.okWide Try.prog W .any base t v := hval0
  have hW' := hW
  obtain ⟨p, q, hA0, hV, rfl, hfz, hnd⟩ := hW
  have hA : DataW.TrodAll enc Try.prog W 0 (fun _ => true) true Try.f8.params.toList args.toList ds p := hA0
  rw [Try.params8] at hA hval
  obtain ⟨v0, vs0, d0, ds0, p0, q0, hargs, rfl, rfl, h0, r0⟩ := trodAll_cons hA
  obtain ⟨rfl, rfl, rfl⟩ := trodAll_nil r0
  obtain rfl : args = #[v0] := by cases args; simp_all
  obtain ⟨rfl, rfl⟩ := trodVars_none hV
  obtain ⟨a0, len0, cap0, rfl⟩ := okWide_slice Try.underlying23 (hval 0 23 v0 rfl rfl)
  have k0 := h0
  have lt0 : ∀ x ∈ p0, x.block < W.heap.size := by obtain ⟨m, hm⟩ := k0; exact DataW.trod_lt m _ _ _ hm
  obtain ⟨xs, hx, hr, hwf, hc⟩ : ∃ xs : List Int, xs.length = len0 ∧ ReadsInt W .u8 a0 xs.length xs ∧ (∀ x ∈ xs, 0 ≤ x ∧ x ≤ 255) ∧ xs.length ≤ cap0 := by
    obtain ⟨fuel, hf⟩ := h0
    rcases open_ints Try.underlying23 Try.underlying5 (by kernel_rfl) hf with ⟨hcs, _⟩ | ⟨x, l, c, zs, hcs, _, hl, hm, hz, _, hcell, hwz⟩
    · simp [Value.cells] at hcs
      obtain ⟨rfl, rfl, rfl⟩ := hcs
      exact ⟨[], rfl, ⟨rfl, by simp, fun h => absurd h (by simp)⟩, by simp, by simp⟩
    · simp [Value.cells] at hcs
      obtain ⟨rfl, rfl, rfl⟩ := hcs
      have hzl : zs.length = cap0 := by simpa using hz
      unfold maxLen at hm
      have htl : (zs.take len0).length = len0 := by rw [List.length_take]; omega
      refine ⟨zs.take len0, htl, ⟨rfl, by rw [htl]; omega, fun _ => ⟨x, rfl, fun j hj => ?_⟩⟩, fun y hy => ?_, by rw [htl]; exact hl⟩
      · rw [htl] at hj
        rw [hcell j (by omega), List.getD_eq_getElem?_getD, List.getD_eq_getElem?_getD, List.getElem?_take_of_lt hj]
      · exact bounds_u8 (hwz y (List.mem_of_mem_take hy))
  subst hx
  clear hA0 hval0
  refine (walk a0 cap0 xs W hr hwf hc).mono fun e W' ⟨he, bel⟩ => ?_
  subst he
  exact ⟨_, rfl, _, _, _, [], _, [], hW', trodAll_mk1 (shut_bool Try.underlying4 _), (trodAll_cons_mk (Below.trod laidOut (by kernel_rfl) (of_decide_eq_true (by kernel_rfl)) k0 bel lt0) trodAll_mk0), rfl, bel.frame _, fun h => by cases h⟩

theorem over : Rows.wireLengthsRow.holds Try.pinned (OpenSpec.ofChange Rows.wireLengthsSpec) :=
  OpenClaim.holds_of_wide 8 Try.f8 rfl rfl rfl rfl rfl rfl rfl ⟨rfl, rfl, rfl, rfl, rfl⟩ rfl rfl rfl rfl rfl (by kernel_rfl) Try.func8 (by kernel_rfl)
    (of_decide_eq_true (by kernel_rfl)) (by unfold Func.isWrapper; first | (rw [if_pos (by decide +kernel)]; kernel_rfl) | (rw [if_neg (by decide +kernel)]; exact ⟨rfl, rfl⟩))
    (fun os started H enc _ => lifted os started H enc)

theorem proved : Rows.WireLengthsSaid := over
#print axioms proved
end Go.Proofs.Ytjccmlmkcjmicaa.wireLengths

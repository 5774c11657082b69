/- The walks of crierroom.Room for lists of bytes: Bytes lays a copy with 600 marked places behind it; Hold tells that no mark is written over. Lengths are bounded by 2^40. -/
import Derived.Test.YtjccmlmkcjmicaaProg
import Derived.Test.YtjccmlmkcjmicaaWWords
import Derived.Lib.Hide
namespace Go.Proofs.Ytjccmlmkcjmicaa.Room
open Go Go.RowKit Go.Proofs.YtjccmlmkcjmicaaW.PrintWords
set_option linter.unusedVariables false
set_option linter.unusedSimpArgs false

theorem infoU8 : (Try.prog.info? 5).map (fun i => (i.zero, i.size, i.bytes)) = some (some (.int .u8 0), 1, 1) := by kernel_rfl
theorem infoInt : (Try.prog.info? 3).map (fun i => (i.zero, i.size, i.bytes)) = some (some (.int .i64 0), 1, 8) := by kernel_rfl
theorem infoBytes : (Try.prog.info? 23).map (fun i => (i.zero, i.size, i.bytes)) = some (some (.slice none 0 0), 1, 24) := by kernel_rfl

abbrev nl : Value := .slice none 0 0
/-- the cells of a Room of which only lists of bytes were asked -/
def roomCells (v0 v1 : Value) : Array Value := #[v0, v1, nl, nl, nl, nl, nl, nl, nl, nl, nl, nl, nl, nl, nl, nl, nl, nl, nl, nl, nl, nl, nl, nl, nl, nl, nl, nl, nl, nl, nl, nl, nl, nl]
/-- the mark of place i behind a list of bytes -/
def markB (i : Nat) : Int := if i % 2 = 0 then 235 else 234
def marks (m : Nat) : List Int := (List.range m).map markB

theorem lot_even (i : Nat) (w : World) (hp : i % 2 = 0) (h : i < 1000000) :
    Calls Try.prog 78 #[.int .i64 (i : Int)] w fun e w' => e = .returned (.int .i64 (-7701)) ∧ w = w' := by
  have h1 : ((i : Int) % 2 == 0) = true := by simp only [beq_iff_eq]; omega
  go_enter Try.func78, Try.ntmps78
  go_wp2
  go_ret
  exact ⟨rfl, rfl⟩
theorem lot_odd (i : Nat) (w : World) (hp : ¬ i % 2 = 0) (h : i < 1000000) :
    Calls Try.prog 78 #[.int .i64 (i : Int)] w fun e w' => e = .returned (.int .i64 (-7702)) ∧ w = w' := by
  have h1 : ((i : Int) % 2 == 0) = false := by simp only [beq_eq_false_iff_ne]; omega
  go_enter Try.func78, Try.ntmps78
  go_wp2
  go_ret
  exact ⟨rfl, rfl⟩

theorem own_to {w : World} {base : Nat} {e : TypeId} {size n n' : Nat} {v : Value} {xs xs' : List Value} (h : w.ownsRow base e size v n xs) (hn : n = n') (hx : xs = xs') : w.ownsRow base e size v n' xs' := by subst hn; subst hx; exact h
theorem marks_succ (k : Nat) : marks (k + 1) = marks k ++ [markB k] := by simp [marks, List.range_succ]
theorem marks_length (k : Nat) : (marks k).length = k := by simp [marks]

theorem stage1 {w w1 : World} {base B b5 N n0 n1 n' : Nat} {v0 v1 v0' gv : Value} {vs xs1 zs vs' : List Value}
    (hB : w.heap[B]? = some (.cells (roomCells v0 v1) 44 (0, 0))) (h0 : w.ownsRow base 23 1 v0 n0 vs) (h1 : w.ownsRow base 3 1 v1 n1 xs1) (h5 : w.ownsRow b5 5 1 gv N zs)
    (hown : w1.ownsRow base 23 1 v0' n' vs') (hg : w.grownBy w1 v0.ownBlock) :
    w1.cell? ⟨B, 0, none⟩ = some v0 ∧ w1.frozen? ⟨B, 0, none⟩ = false ∧
    (w1.setCell ⟨B, 0, none⟩ v0').heap[B]? = some (.cells (roomCells v0' v1) 44 (0, 0)) ∧ (w1.setCell ⟨B, 0, none⟩ v0').ownsRow base 23 1 v0' n' vs' ∧
    (w1.setCell ⟨B, 0, none⟩ v0').ownsRow base 3 1 v1 n1 xs1 ∧ (w1.setCell ⟨B, 0, none⟩ v0').ownsRow b5 5 1 gv N zs ∧
    (∀ k, k < w.heap.size → k ≠ B → some k ≠ v0.ownBlock → (w1.setCell ⟨B, 0, none⟩ v0').heap[k]? = w.heap[k]?) := by
  have hB1 : w1.heap[B]? = some (.cells (roomCells v0 v1) 44 (0, 0)) := blk_grown hB hg (own_ne h0 hB (by decide))
  have h1' := own_other h1 hg (own_type_ne h1 h0 (by decide))
  have h5' := own_other h5 hg (own_type_ne h5 h0 (by decide))
  refine ⟨blk_cell hB1 0, blk_frozen hB1 0, blk_set hB1 0 v0', own_setCell hown (own_ne hown hB1 (by decide)) _, own_setCell h1' (own_ne h1' hB1 (by decide)) _, own_setCell h5' (own_ne h5' hB1 (by decide)) _, fun k hk hkB hk0 => ?_⟩
  exact (Below.heap_setCell w1 ⟨B, 0, none⟩ v0' k hkB).trans (hg.block k hk hk0)
theorem stage2 {w w1 : World} {base B b5 N n0 n1 n' : Nat} {v0 v1 v1' gv : Value} {vs xs1 zs xs1' : List Value}
    (hB : w.heap[B]? = some (.cells (roomCells v0 v1) 44 (0, 0))) (h0 : w.ownsRow base 23 1 v0 n0 vs) (h1 : w.ownsRow base 3 1 v1 n1 xs1) (h5 : w.ownsRow b5 5 1 gv N zs)
    (hown : w1.ownsRow base 3 1 v1' n' xs1') (hg : w.grownBy w1 v1.ownBlock) :
    w1.cell? ⟨B, 1, none⟩ = some v1 ∧ w1.frozen? ⟨B, 1, none⟩ = false ∧
    (w1.setCell ⟨B, 1, none⟩ v1').heap[B]? = some (.cells (roomCells v0 v1') 44 (0, 0)) ∧ (w1.setCell ⟨B, 1, none⟩ v1').ownsRow base 3 1 v1' n' xs1' ∧
    (w1.setCell ⟨B, 1, none⟩ v1').ownsRow base 23 1 v0 n0 vs ∧ (w1.setCell ⟨B, 1, none⟩ v1').ownsRow b5 5 1 gv N zs ∧
    (∀ k, k < w.heap.size → k ≠ B → some k ≠ v1.ownBlock → (w1.setCell ⟨B, 1, none⟩ v1').heap[k]? = w.heap[k]?) := by
  have hB1 : w1.heap[B]? = some (.cells (roomCells v0 v1) 44 (0, 0)) := blk_grown hB hg (own_ne h1 hB (by decide))
  have h0' := own_other h0 hg (own_type_ne h0 h1 (by decide))
  have h5' := own_other h5 hg (own_type_ne h5 h1 (by decide))
  refine ⟨blk_cell hB1 1, blk_frozen hB1 1, blk_set hB1 1 v1', own_setCell hown (own_ne hown hB1 (by decide)) _, own_setCell h0' (own_ne h0' hB1 (by decide)) _, own_setCell h5' (own_ne h5' hB1 (by decide)) _, fun k hk hkB hk0 => ?_⟩
  exact (Below.heap_setCell w1 ⟨B, 1, none⟩ v1' k hkB).trans (hg.block k hk hk0)

set_option maxRecDepth 100000 in
set_option maxHeartbeats 2000000 in
theorem layBytes_any (base B n c m : Nat) (A : Option Addr) (xs : List Int) (v0 v1 : Value) (vs : List Value) (ns : List Int) (w0 w : World) (hwb : Below base w0 w) (hbase : base ≤ B)
    (hB : w.heap[B]? = some (.cells (roomCells v0 v1) 44 (0, 0))) (h0 : w.ownsRow base 23 1 v0 vs.length vs) (h1 : w.ownsRow base 3 1 v1 ns.length (nums .i64 ns))
    (hr : ReadsInt w .u8 A n xs) (hn : n + m ≤ 1099511627776) (hvs : vs.length ≤ 1099511627776) (hns : ns.length ≤ 1099511627776) (hm : m ≤ 1000) :
    Calls Try.prog 42 #[.pointer (some ⟨B, 0, none⟩), .slice A n c, .int .i64 (m : Int)] w fun e w' => ∃ g cap v0' v1',
      e = .returned (.slice (some ⟨g, 0, none⟩) n (n + m)) ∧ w.heap.size ≤ g ∧ w'.ownsRow w.heap.size 5 1 (.slice (some ⟨g, 0, none⟩) (n + m) cap) (n + m) (nums .u8 (xs ++ marks m)) ∧
      w'.heap[B]? = some (.cells (roomCells v0' v1') 44 (0, 0)) ∧ w'.ownsRow base 23 1 v0' (vs ++ [Value.slice (some ⟨g, 0, none⟩) (n + m) cap]).length (vs ++ [.slice (some ⟨g, 0, none⟩) (n + m) cap]) ∧
      w'.ownsRow base 3 1 v1' (ns ++ [(n : Int)]).length (nums .i64 (ns ++ [(n : Int)])) ∧ Below base w0 w' ∧
      ∀ k, k < w.heap.size → k ≠ B → some k ≠ v0.ownBlock → some k ≠ v1.ownBlock → w'.heap[k]? = w.heap[k]? := by
  have HL := Aside0.mk (show xs.length = n from hr.1)
  have hBlt := blk_lt hB
  have HB0 := Aside0.mk hB
  clear hB
  go_enter Try.func42, Try.ntmps42
  go_wp2_with (at_builtin; refine print_append_row (w0 := w) w.heap.size rfl (.tmp 10) (.tmp 11) 23 5 .u8 1 rfl Try.underlying23 infoU8 (by omega) (.slice (some ⟨w.heap.size, 0, none⟩) 0 0) [] xs A n c rfl rfl ?aO ?aR ?aB ?aS ?aL ?_)
  case aO => simpa [nums] using own_lit w w.heap.size 5 .u8 [] (Nat.le_refl _) (by simp)
  case aR => exact hr.below ((Below.refl _ _).alloc (Nat.le_refl _) _)
  case aB => exact (Below.refl _ _).alloc (Nat.le_refl _) _
  case aS => simp
  case aL => simp; omega
  intro v w1 hown hb1 _ hat
  have hnn : ∃ b, v.ownBlock = some b := by
    rcases hat with hat | ⟨b, hb, _⟩
    · exact ⟨_, hat⟩
    · exact ⟨b, hb⟩
  clear hat
  have HO := Aside0.mk (show w1.ownsRow w.heap.size 5 1 v (n + 0) (nums .u8 (xs ++ marks 0)) by simpa [marks, HL.out] using hown)
  have HN := Aside0.mk hnn
  have HB := Aside0.mk hb1
  clear hown hnn hb1
  go_wp2_with fail
  go_loopg [7, 8] m (fun q v i wr => ∃ k : Nat, k + q = m ∧ i = .int .i64 (k : Int) ∧ Aside0 (wr.ownsRow w.heap.size 5 1 v (n + k) (nums .u8 (xs ++ marks k))) ∧ Aside0 (∃ b, v.ownBlock = some b) ∧ Aside0 (Below w.heap.size w wr))
  case atStart => exact ⟨0, by omega, rfl, HO, HN, HB⟩
  case round =>
    obtain ⟨k, hk, rfl, HO, HN, HB⟩ := hrel
    by_cases hlt : k < m
    · have hsz := HB.out.size
      have hHL := HL.out
      by_cases hp : k % 2 = 0
      · have HP := Aside0.mk hp
        go_wp2_with (first | (go_at_call 78; refine (lot_even k _ HP.out (by omega)).mono ?_; rintro e w' ⟨rfl, rfl⟩) | (at_builtin; refine print_append_num (w0 := w) w.heap.size rfl (.tmp 18) (.tmp 22) 23 5 .u8 1 rfl Try.underlying23 infoU8 (by omega) u7 (xs ++ marks k) 235 rfl rfl ?aO ?aB ?aS ?aL ?_))
        case aO => have := HO.out; rwa [show (xs ++ marks k).length = n + k by simp [HL.out, marks_length]]
        case aB => exact HB.out
        case aS => exact hsz
        case aL => simp [HL.out, marks_length]; omega
        intro v1 w1 hown hb _ hat
        have HO1 := Aside0.mk (own_to (n' := n + (k + 1)) (xs' := nums .u8 (xs ++ marks (k + 1))) hown (by simp [HL.out, marks_length]; try omega) (by rw [marks_succ]; simp [markB, HP.out, List.append_assoc]))
        have HN1 := Aside0.mk (show ∃ b, v1.ownBlock = some b by rcases hat with hat | ⟨b, hb, _⟩; · rw [hat]; exact HN.out
                                                                 · exact ⟨b, hb⟩)
        have HB1 := Aside0.mk hb
        clear hown hb hat HO HN HB
        go_wp2
        go_roundg (gk - 1)
        case measure => omega
        case rel => exact ⟨k + 1, by omega, by go_num, HO1, HN1, HB1⟩
      · have HP := Aside0.mk hp
        go_wp2_with (first | (go_at_call 78; refine (lot_odd k _ HP.out (by omega)).mono ?_; rintro e w' ⟨rfl, rfl⟩) | (at_builtin; refine print_append_num (w0 := w) w.heap.size rfl (.tmp 18) (.tmp 22) 23 5 .u8 1 rfl Try.underlying23 infoU8 (by omega) u7 (xs ++ marks k) 234 rfl rfl ?aO ?aB ?aS ?aL ?_))
        case aO => have := HO.out; rwa [show (xs ++ marks k).length = n + k by simp [HL.out, marks_length]]
        case aB => exact HB.out
        case aS => exact hsz
        case aL => simp [HL.out, marks_length]; omega
        intro v1 w1 hown hb _ hat
        have HO1 := Aside0.mk (own_to (n' := n + (k + 1)) (xs' := nums .u8 (xs ++ marks (k + 1))) hown (by simp [HL.out, marks_length]; try omega) (by rw [marks_succ]; simp [markB, HP.out, List.append_assoc]))
        have HN1 := Aside0.mk (show ∃ b, v1.ownBlock = some b by rcases hat with hat | ⟨b, hb, _⟩; · rw [hat]; exact HN.out
                                                                 · exact ⟨b, hb⟩)
        have HB1 := Aside0.mk hb
        clear hown hb hat HO HN HB
        go_wp2
        go_roundg (gk - 1)
        case measure => omega
        case rel => exact ⟨k + 1, by omega, by go_num, HO1, HN1, HB1⟩
    · obtain rfl : k = m := by omega
      have hsz := HB.out.size
      obtain ⟨bv, hbv⟩ := HN.out
      obtain ⟨g, cap, hv, hg⟩ : ∃ g cap, u7 = .slice (some ⟨g, 0, none⟩) (n + k) cap ∧ w.heap.size ≤ g := by
        rcases HO.out.2 with ⟨rfl, _⟩ | ⟨g, cap, cur, rfl, hb, _⟩
        · simp [Value.ownBlock] at hbv
        · exact ⟨g, cap, rfl, hb⟩
      subst hv
      clear hbv
      have hc0 : wr.cell? ⟨B, 0, none⟩ = some v0 := blk_cell ((HB.out.block B hBlt).trans HB0.out) 0
      go_wp2_with (at_builtin; refine print_append (w0 := w0) base rfl (.tmp 28) (.tmp 30) 25 23 nl 24 rfl Try.underlying25 infoBytes rfl (by omega) v0 vs (.slice (some ⟨g, 0, none⟩) (n + k) cap) rfl rfl rfl ?aO ?aB ?aS ?aL ?_)
      case aO => exact pw_own_below h0 HB.out
      case aB => exact hwb.trans (HB.out.mono (hwb.size |> fun h => Nat.le_trans (by omega : base ≤ w.heap.size) (Nat.le_refl _)))
      case aS => omega
      case aL => omega
      intro v0' w1 hown hb hg hat
      have hB1 := (HB.out.block B hBlt).trans HB0.out
      obtain ⟨q1, q2, q3, q4, q5, q6, q7⟩ := stage1 hB1 (pw_own_below h0 HB.out) (pw_own_below h1 HB.out) HO.out hown hg
      have hsz3 := hg.size
      obtain ⟨A1, c1, he⟩ := own_slice hown
      subst he
      have S3 := Aside0.mk q3
      have S4 := Aside0.mk q4
      have S5 := Aside0.mk q5
      have S6 := Aside0.mk q6
      have S7 := Aside0.mk q7
      have SB := Aside0.mk hb
      clear q3 q4 q5 q6 q7 hb hg hat hown hB1 hc0
      have hc1 : (w1.setCell ⟨B, 0, none⟩ (.slice A1 (vs.length + 1) c1)).cell? ⟨B, 1, none⟩ = some v1 := by
        have := blk_cell S3.out 1
        simpa [roomCells] using this
      have hc2 : w1.cell? ⟨B, 1, none⟩ = some v1 := by rw [← hc1]; exact (World.cell?_setCell_other _ _ _ _ (by simp)).symm
      have hsz1 := SB.out.size
      have hszw : base ≤ w1.heap.size := by have := hwb.size; have := blk_lt S3.out; simp at this; omega
      go_wp2_with (at_builtin; refine print_append_num (w0 := w0) base rfl (.tmp 38) (.tmp 41) 26 3 .i64 8 rfl Try.underlying26 infoInt (by omega) v1 ns n rfl ?aX ?aO ?aB ?aS ?aL ?_)
      case aX => show Value.slice (some ⟨w1.heap.size, 0, none⟩) 1 1 = _; simp
      case aO => exact S5.out
      case aB => exact SB.out.setCell hbase _
      case aS => simpa using hszw
      case aL => omega
      intro v1' w2 hown hb hg2 hat
      obtain ⟨q1, q2, q3, q4, q5, q6, q7⟩ := stage2 S3.out S4.out S5.out S6.out hown hg2
      obtain ⟨A2, c2, he⟩ := own_slice hown
      subst he
      have T3 := Aside0.mk q3
      have T4 := Aside0.mk q4
      have T5 := Aside0.mk q5
      have T6 := Aside0.mk q6
      have T7 := Aside0.mk q7
      have TB := Aside0.mk hb
      clear q3 q4 q5 q6 q7 hb hg2 hat hown hc1 hc2
      obtain ⟨hcap1, hcap2⟩ : n + k ≤ cap ∧ cap ≤ 9223372036854775807 := by
        rcases HO.out.2 with ⟨h, _⟩ | ⟨g', cap', cur, h, _, _, h1, h2, _⟩
        · cases h
        · injection h with h3 h4 h5
          subst h5
          simp only [maxLen] at h2
          exact ⟨h1, by omega⟩
      go_wp2
      go_ret
      refine ⟨g, cap, _, _, by simp, hg, T6.out, T3.out, ?_, ?_, TB.out.setCell hbase _, fun k' hk' hkB hk0 hk1 => ?_⟩
      · exact own_to T5.out (by simp) rfl
      · exact own_to T4.out (by simp) rfl
      · have e1 := HB.out.block k' hk'
        have e2 := S7.out k' (by omega) hkB hk0
        have e3 := T7.out k' (by simp; omega) hkB hk1
        exact e3.trans (e2.trans e1)

theorem bytes_any (base B n c : Nat) (A : Option Addr) (xs : List Int) (v0 v1 : Value) (vs : List Value) (ns : List Int) (w0 w : World) (hwb : Below base w0 w) (hbase : base ≤ B)
    (hB : w.heap[B]? = some (.cells (roomCells v0 v1) 44 (0, 0))) (h0 : w.ownsRow base 23 1 v0 vs.length vs) (h1 : w.ownsRow base 3 1 v1 ns.length (nums .i64 ns))
    (hr : ReadsInt w .u8 A n xs) (hn : n + 600 ≤ 1099511627776) (hvs : vs.length ≤ 1099511627776) (hns : ns.length ≤ 1099511627776) :
    Calls Try.prog 14 #[.pointer (some ⟨B, 0, none⟩), .slice A n c] w fun e w' => ∃ g cap v0' v1',
      e = .returned (.slice (some ⟨g, 0, none⟩) n (n + 600)) ∧ w.heap.size ≤ g ∧ w'.ownsRow w.heap.size 5 1 (.slice (some ⟨g, 0, none⟩) (n + 600) cap) (n + 600) (nums .u8 (xs ++ marks 600)) ∧
      w'.heap[B]? = some (.cells (roomCells v0' v1') 44 (0, 0)) ∧ w'.ownsRow base 23 1 v0' (vs ++ [Value.slice (some ⟨g, 0, none⟩) (n + 600) cap]).length (vs ++ [.slice (some ⟨g, 0, none⟩) (n + 600) cap]) ∧
      w'.ownsRow base 3 1 v1' (ns ++ [(n : Int)]).length (nums .i64 (ns ++ [(n : Int)])) ∧ Below base w0 w' ∧
      ∀ k, k < w.heap.size → k ≠ B → some k ≠ v0.ownBlock → some k ≠ v1.ownBlock → w'.heap[k]? = w.heap[k]? := by
  have HC := Aside0.mk (layBytes_any base B n c 600 A xs v0 v1 vs ns w0 w hwb hbase hB h0 h1 hr hn hvs hns (by omega))
  clear hB h0 h1 hr
  go_enter Try.func14, Try.ntmps14
  go_wp2_with fail
  refine (HC.out).mono ?_
  rintro e w' ⟨g, cap, v0', v1', rfl, h⟩
  have H := Aside0.mk h
  clear h HC
  go_wp2
  go_ret
  exact ⟨g, cap, v0', v1', rfl, H.out⟩

/-- the value leads to a row whose places from n on hold the marks -/
def Marked (w : World) (v : Value) (n : Int) : Prop := ∃ (m g L cap : Nat), n = (m : Int) ∧ v = .slice (some ⟨g, 0, none⟩) L cap ∧ m ≤ L ∧ L ≤ 1099511627776 ∧ L ≤ m + 1000 ∧ ∀ i, m ≤ i → i < L → w.cell? ⟨g, i, none⟩ = some (.int .u8 (markB (i - m)))

set_option maxRecDepth 100000 in
set_option maxHeartbeats 2000000 in
theorem holdBytes_any (base B : Nat) (v0 v1 : Value) (vs : List Value) (ns : List Int) (w : World)
    (hB : w.heap[B]? = some (.cells (roomCells v0 v1) 44 (0, 0))) (h0 : w.ownsRow base 23 1 v0 vs.length vs) (h1 : w.ownsRow base 3 1 v1 ns.length (nums .i64 ns))
    (hl : ns.length = vs.length) (hvs : vs.length ≤ 1099511627776) (hm : ∀ j, j < vs.length → Marked w (vs.getD j nl) (ns.getD j 0)) :
    Calls Try.prog 43 #[.pointer (some ⟨B, 0, none⟩)] w fun e w' => e = .returned (.bool true) ∧ w = w' := by
  obtain ⟨A0, c0, e0⟩ := own_slice h0
  have hc0 : w.cell? ⟨B, 0, none⟩ = some v0 := blk_cell hB 0
  have hc1 : w.cell? ⟨B, 1, none⟩ = some v1 := blk_cell hB 1
  have H0 := Aside0.mk h0
  have H1 := Aside0.mk h1
  have HM := Aside0.mk hm
  have HL := Aside0.mk hl
  clear h0 h1 hm hB hl
  subst e0
  go_enter Try.func43, Try.ntmps43
  go_wp2_with fail
  go_loopg [3] vs.length (fun q i wr => ∃ k : Nat, k + q = vs.length ∧ i = .int .i64 (k : Int) ∧ w = wr)
  case atStart => exact ⟨0, by omega, rfl, rfl⟩
  case round =>
    obtain ⟨k, hk, rfl, rfl⟩ := hrel
    have HK := Aside0.mk hk
    clear hk
    by_cases hlt : k < vs.length
    · obtain ⟨g0, cap0, ev, _, _⟩ := H0.out.form (by omega)
      obtain ⟨g1, cap1, ev1, _, _⟩ := H1.out.form (by have := HL.out; omega)
      injection ev with ev2 ev3 ev4
      subst ev2
      subst ev1
      obtain ⟨m, g, L, cap, hn, hv, hmL, hL, hL2, hcell⟩ := HM.out k hlt
      have hcv : w.cell? ⟨g0, k, none⟩ = some (.slice (some ⟨g, 0, none⟩) L cap) := by
        have := H0.out.cells (g := g0) rfl k (.slice (some ⟨g, 0, none⟩) L cap) (by rw [← hv]; simp [List.getD_eq_getElem?_getD, List.getElem?_eq_getElem hlt])
        rwa [add_plain] at this
      have hcn : w.cell? ⟨g1, k, none⟩ = some (.int .i64 (m : Int)) := by
        have hlt' : k < ns.length := by rw [HL.out]; exact hlt
        have := H1.out.cells (g := g1) rfl k (.int .i64 (m : Int)) (by rw [← hn]; simp [nums, List.getD_eq_getElem?_getD, List.getElem?_eq_getElem hlt'])
        rwa [add_plain] at this
      have HCL := Aside0.mk hcell
      clear hn hv hcell
      have hk1 : (k : Int) < (vs.length : Int) := by omega
      have hk2 : (k : Int) < (ns.length : Int) := by have := HL.out; omega
      go_wp2_with fail
      go_loopg [5] (L - m) (fun q i wr => ∃ j : Nat, j + q = L ∧ m ≤ j ∧ i = .int .i64 (j : Int) ∧ w = wr)
      case atStart => exact ⟨m, by omega, by omega, rfl, rfl⟩
      case round =>
        obtain ⟨j, hj, hmj, rfl, rfl⟩ := hrel
        have HJ := Aside0.mk hj
        clear hj
        by_cases hlj : j < L
        · by_cases hp : (j - m) % 2 = 0
          · have hcj : w.cell? ⟨g, j, none⟩ = some (.int .u8 235) := by rw [HCL.out j hmj hlj]; simp [markB, hp]
            have HP := Aside0.mk hp
            clear hp
            go_wp2_with (go_at_call 78; rw [show ((j : Int) - (m : Int)) = ((j - m : Nat) : Int) from by omega]; refine (lot_even (j - m) _ HP.out (by omega)).mono ?_; rintro e w' ⟨rfl, rfl⟩)
            go_roundg (L - (j + 1))
            case measure => have := HJ.out; omega
            case rel => exact ⟨j + 1, by omega, by omega, by go_num, rfl⟩
          · have hcj : w.cell? ⟨g, j, none⟩ = some (.int .u8 234) := by rw [HCL.out j hmj hlj]; simp [markB, hp]
            have HP := Aside0.mk hp
            clear hp
            go_wp2_with (go_at_call 78; rw [show ((j : Int) - (m : Int)) = ((j - m : Nat) : Int) from by omega]; refine (lot_odd (j - m) _ HP.out (by omega)).mono ?_; rintro e w' ⟨rfl, rfl⟩)
            go_roundg (L - (j + 1))
            case measure => have := HJ.out; omega
            case rel => exact ⟨j + 1, by omega, by omega, by go_num, rfl⟩
        · go_wp2
          go_roundg (vs.length - (k + 1))
          case measure => have := HK.out; omega
          case rel => exact ⟨k + 1, by omega, by go_num, rfl⟩
    · go_wp2
      go_ret
      exact ⟨rfl, rfl⟩
end Go.Proofs.Ytjccmlmkcjmicaa.Room

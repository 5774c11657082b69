/- topic.Check: strings.ContainsAny of "+#" over any string: byte-wise. No condition. topic.Levels and topic.CheckFilter: what they answer. No condition beyond the text's length. packet.filters: whether every filter in a packet is one. No statement of the program. packet.qualities. No statement of the program. packet.length. No statement of the program. -/
import Derived.Test.YthlbcgaegaoanaaDoorMHead
import Derived.Test.YthlbcgaegaoanaaDoorShelf
import Derived.Stop.FmtQuoteTie
import Derived.Deep.LoopGhost
import Derived.Laws.Runes
import Derived.Lib.OthersKept
import Derived.Test.YthlbcgaegaoanaaDoorMW
import Derived.Test.YthlbcgaegaoanaaDoorMRdr
import Derived.Laws.EntriesVeiled
import Derived.Test.YthlbcgaegaoanaaDoorMConn
import Derived.Deep.DeepCutAuto
import Derived.Great.Walk
namespace Go.Proofs.YthlbcgaegaoanaaDoor.Cr
open Go Go.RowKit Go.Proofs.YthlbcgaegaoanaaDoorW.PrintWords Go.Proofs.YthlbcgaegaoanaaDoorW.PrintLast Go.Proofs.YthlbcgaegaoanaaDoorW.PrintMore Go.Proofs.YthlbcgaegaoanaaDoor.Kinds Go.Proofs.YthlbcgaegaoanaaDoor.Utf Go.Proofs.YthlbcgaegaoanaaDoor.Chk Go.Proofs.YthlbcgaegaoanaaDoor.Rdr
set_option linter.unusedVariables false
set_option linter.unusedSimpArgs false
def wild : ByteArray := ⟨#[43, 35]⟩
theorem dec_hi (a b c d : Nat) (ha : 128 ≤ a) (h2 : a < 256) : 128 ≤ (dec a b c d).1 ∧ (dec a b c d).1 ≤ 1114111 ∧ 1 ≤ (dec a b c d).2 ∧ (2 ≤ (dec a b c d).2 → 128 ≤ b) ∧ (3 ≤ (dec a b c d).2 → 128 ≤ c) ∧ (4 ≤ (dec a b c d).2 → 128 ≤ d) ∧ (dec a b c d).2 ≤ 4 := by
  unfold dec
  simp only [vld]
  rw [if_neg (by omega)]
  split
  · rename_i h; simp at h
    split
    · simp only; omega
    · simp only; omega
  split
  · rename_i h; simp at h
    split
    · rename_i h'; simp at h'; simp only; omega
    · simp only; omega
  split
  · rename_i h; simp at h
    split
    · rename_i h'; simp at h'; simp only; omega
    · simp only; omega
  · simp only; omega
set_option maxRecDepth 100000 in
set_option maxHeartbeats 2000000 in
theorem idxRune_err (w : World) :
    Calls Tryd.prog 73 #[.string ⟨#[43, 35]⟩, .int .i32 65533] w fun e w' => e = .returned (.int .i64 (-1)) ∧ Below w.heap.size w w' := by
  go_enter Tryd.func73, Tryd.ntmps73
  go_wp2
  go_loopg [] 3 (fun b wr => ∃ pos : Nat, wr = w.iter ⟨#[43, 35]⟩ pos ∧ 2 < pos + b ∧ pos ≤ 2)
  case atStart => exact ⟨0, rfl, by omega, by omega⟩
  case round =>
    obtain ⟨pos, rfl, hb, hp⟩ := hrel
    cases gk with
    | zero => omega
    | succ gk =>
    have hp3 : pos = 0 ∨ pos = 1 ∨ pos = 2 := by omega
    rcases hp3 with rfl | rfl | rfl
    · have hnx := fun ty => run_next_ascii (P := Tryd.prog) w ⟨#[43, 35]⟩ 0 ty (by decide) (by decide)
      go_wp2
      go_roundg gk
      case rel => exact ⟨1, rfl, by omega, by omega⟩
      case measure => omega
    · have hnx := fun ty => run_next_ascii (P := Tryd.prog) w ⟨#[43, 35]⟩ 1 ty (by decide) (by decide)
      go_wp2
      go_roundg gk
      case rel => exact ⟨2, rfl, by omega, by omega⟩
      case measure => omega
    · have hnx := run_next_end (P := Tryd.prog) w ⟨#[43, 35]⟩ 2
      go_wp2
      go_ret
      exact ⟨rfl, (Below.refl _ _).alloc (Nat.le_refl _) _⟩
set_option maxRecDepth 100000 in
set_option maxHeartbeats 2000000 in
theorem idxRune_two (t ns : ByteArray) (ht : t.size = 2) (h35 : ∀ h : 1 < t.size, (t[1]'h).toNat < 128) (r : Int) (w : World) (h0 : 128 ≤ r) (h1 : r ≤ 1114111) (he : r ≠ 65533) (hv : Lib.validRune r = true) (hns : Utf8.encode r = ns) (hsz : ns.size = 2) (hb : ∀ (h : 1 < ns.size), 128 ≤ (ns[1]'h).toNat) :
    Calls Tryd.prog 73 #[.string t, .int .i32 r] w fun e w' => e = .returned (.int .i64 (-1)) ∧ Below w.heap.size w w' := by
  have he2 : (r == 65533) = false := by simp [he]
  have hsz2 : (ns.size : Int) = 2 := by omega
  have ht2 : (t.size : Int) = 2 := by omega
  obtain ⟨x, hx, hx2⟩ : ∃ x : UInt8, (∃ h : 1 < ns.size, ns[1]'h = x) ∧ 128 ≤ x.toNat := ⟨ns[1]'(by omega), ⟨by omega, rfl⟩, hb (by omega)⟩
  obtain ⟨hx1, hx⟩ := hx
  obtain ⟨y, hy, hy2⟩ : ∃ y : UInt8, (∃ h : 1 < t.size, t[1]'h = y) ∧ y.toNat < 128 := ⟨t[1]'(by omega), ⟨by omega, rfl⟩, h35 (by omega)⟩
  obtain ⟨hy1, hy⟩ := hy
  have hne : ((y.toNat : Int) != (x.toNat : Int)) = true := by simp; omega
  have hix : Lib.indexByte [] x = -1 := rfl
  clear hb h35
  have hw2 : IntKind.i64.wrap 2 = 2 := rfl
  have hcv : ∀ w, (convert 21 9 (.int .i32 r)).run Tryd.prog w = .ok (.string ns) w := fun w => (run_convert_int_string (P := Tryd.prog) w 21 9 .i32 r (by kernel_rfl) (by kernel_rfl)).trans (by rw [hns])
  clear hns
  go_enter Tryd.func73, Tryd.ntmps73
  go_wp2_with (go_at_call 78; refine (Tryd.utf8_ValidRune _ _).mono ?_; rintro e w' ⟨rfl, hw⟩; rw [hw, hv]; clear hw)
  refine wp_scope_straight ?_
  go_wp2
  go_loopg [9] 0 (fun b i9 wr => i9 = .int .i64 1 ∧ wr = w)
  case atStart => exact ⟨rfl, rfl⟩
  case round =>
    obtain ⟨rfl, rfl⟩ := hrel
    go_wp2
    refine wp_scope_straight ?_
    go_wp2
    go_region
    all_goals
      go_wp2
      go_region_law (go_simp; go_at_call 77; refine (Tryd.strings_IndexByte _ _ _).mono ?_; rintro e w5 ⟨rfl, hw⟩; rw [hw])
      all_goals
        go_wp2
        simp only [Exit.noGoto, Exit.inBlock, Exit.then]
        go_ret
        exact ⟨rfl, (Below.refl _ _).drew.drew⟩
set_option maxRecDepth 100000 in
set_option maxHeartbeats 2000000 in
theorem idxRune_more (t ns : ByteArray) (ht : t.size = 2) (r : Int) (w : World) (h0 : 128 ≤ r) (h1 : r ≤ 1114111) (he : r ≠ 65533) (hv : Lib.validRune r = true) (hns : Utf8.encode r = ns) (hsz : 3 ≤ ns.size) (hsz4 : ns.size ≤ 4) :
    Calls Tryd.prog 73 #[.string t, .int .i32 r] w fun e w' => e = .returned (.int .i64 (-1)) ∧ Below w.heap.size w w' := by
  have he2 : (r == 65533) = false := by simp [he]
  have ht2 : (t.size : Int) = 2 := by omega
  obtain ⟨k, hk, hk3, hk4⟩ : ∃ k : Int, (ns.size : Int) = k ∧ 3 ≤ k ∧ k ≤ 4 := ⟨_, rfl, by omega, by omega⟩
  have hw2 : IntKind.i64.wrap (k - 1) = k - 1 := wrap_small _ (by omega) (by omega)
  have hlt : decide (k - 1 < 2) = false := by simp; omega
  have hcv : ∀ w, (convert 21 9 (.int .i32 r)).run Tryd.prog w = .ok (.string ns) w := fun w => (run_convert_int_string (P := Tryd.prog) w 21 9 .i32 r (by kernel_rfl) (by kernel_rfl)).trans (by rw [hns])
  clear hns
  go_enter Tryd.func73, Tryd.ntmps73
  go_wp2_with (go_at_call 78; refine (Tryd.utf8_ValidRune _ _).mono ?_; rintro e w' ⟨rfl, hw⟩; rw [hw, hv]; clear hw)
  refine wp_scope_straight ?_
  go_wp2
  go_loopg [9] 0 (fun b i9 wr => i9 = .int .i64 (k - 1) ∧ wr = w)
  case atStart => exact ⟨rfl, rfl⟩
  case round =>
    obtain ⟨rfl, rfl⟩ := hrel
    go_wp2
    simp only [Exit.noGoto, Exit.inBlock, Exit.then]
    go_ret
    exact ⟨rfl, Below.refl _ _⟩
set_option maxRecDepth 100000 in
set_option maxHeartbeats 2000000 in
theorem idxRune_bad (t : ByteArray) (r : Int) (w : World) (h0 : 128 ≤ r) (he : r ≠ 65533) (hv : Lib.validRune r = false) :
    Calls Tryd.prog 73 #[.string t, .int .i32 r] w fun e w' => e = .returned (.int .i64 (-1)) ∧ Below w.heap.size w w' := by
  have he2 : (r == 65533) = false := by simp [he]
  go_enter Tryd.func73, Tryd.ntmps73
  go_wp2_with (go_at_call 78; refine (Tryd.utf8_ValidRune _ _).mono ?_; rintro e w' ⟨rfl, hw⟩; rw [hw, hv]; clear hw)
  go_ret
  exact ⟨rfl, Below.refl _ _⟩
theorem idxRune_hi (r : Int) (w : World) (h0 : 128 ≤ r) (h1 : r ≤ 1114111) :
    Calls Tryd.prog 73 #[.string wild, .int .i32 r] w fun e w' => e = .returned (.int .i64 (-1)) ∧ Below w.heap.size w w' := by
  by_cases he : r = 65533
  · subst he; exact idxRune_err w
  · cases hv : Lib.validRune r with
    | false => exact idxRune_bad _ r w h0 he hv
    | true =>
      obtain ⟨f2, f4, f8⟩ := encode_facts r (by rw [validRune_eq]; exact hv) h0
      by_cases h2 : (Utf8.encode r).size = 2
      · refine idxRune_two wild _ rfl (fun h => by have : (wild[1]'h).toNat = 35 := rfl; omega) r w h0 h1 he hv rfl h2 (fun h => ?_)
        have := f8 (by omega)
        simpa only [h2] using this
      · exact idxRune_more wild _ rfl r w h0 h1 he hv rfl (by omega) f4
def wildL (s : ByteArray) : Int := Lib.indexAny s.data.toList wild.data.toList
theorem wild_in (x : UInt8) (h : 128 ≤ x.toNat) : wild.data.toList.contains x = false := by
  show [(43 : UInt8), 35].contains x = false
  simp only [List.contains_cons, List.contains_nil, Bool.or_false, Bool.or_eq_false_iff, beq_eq_false_iff_ne]
  constructor <;> (intro e; subst e; simp at h)
theorem noAny_skip (s : ByteArray) (i n : Nat) (hn : Lib.NoAny s.data.toList wild.data.toList i) (hs : ∀ j, j < n → i + j < s.size ∧ 128 ≤ at0 s (i + j)) : Lib.NoAny s.data.toList wild.data.toList (i + n) := by
  induction n with
  | zero => exact hn
  | succ n ih =>
    obtain ⟨h1, h2⟩ := hs n (by omega)
    have := ih (fun j hj => hs j (by omega))
    have hx : s.data.toList[i + n]? = some (s[i + n]'h1) := Lib.data_getElem? s _ h1
    refine Lib.NoAny.succ this hx (wild_in _ ?_)
    have : at0 s (i + n) = (s[i + n]'h1).toNat := by unfold at0; rw [dif_pos h1]
    omega
set_option maxHeartbeats 2000000 in
set_option maxRecDepth 1000000 in
theorem indexAny_short (s : ByteArray) (w : World) (h8 : s.size ≤ 8) :
    Calls Tryd.prog 68 #[.string s, .string wild] w fun e w' => e = .returned (.int .i64 (wildL s)) ∧ Below w.heap.size w w' := by
  obtain ⟨t, ht, hw⟩ : ∃ t, t = wild ∧ t.toList.isEmpty = false := ⟨_, rfl, by rw [Lib.toList_data]; rfl⟩
  have hts : t.size = 2 := by rw [ht]; rfl
  have hn1 : ((t.size : Int) == 1) = false := beq_eq_false_iff_ne.2 (by omega)
  have h8z : decide ((8 : Int) < (s.size : Int)) = false := decide_eq_false (by omega)
  have HT := Aside0.mk ht
  obtain ⟨r, hr⟩ : ∃ r, r = wildL s := ⟨_, rfl⟩
  rw [← hr, ← ht]
  have HR := Aside0.mk hr
  clear ht hr
  go_enter Tryd.func68, Tryd.ntmps68
  go_wp2_with (go_at_call 74; refine (Tryd.strings_shouldUseASCIISet _ _).mono ?_; rintro e w' ⟨rfl, hw⟩; rw [hw, h8z])
  go_loopg [9, 10] s.size (fun g _ _ wx => ∃ i : Nat, s.size ≤ i + g ∧ i ≤ s.size ∧ Lib.NoAny s.data.toList wild.data.toList i ∧ Below w.heap.size w wx ∧ wx.heap[w.heap.size]? = some (.stringIter s i))
  case atStart => exact ⟨0, by omega, by omega, Lib.NoAny.zero _ _, (Below.refl _ _).alloc (Nat.le_refl _) _, World.iter_heap _ _ _⟩
  case round =>
    clear hw
    obtain ⟨i, hig, hi', hno, hB, hk⟩ := hrel
    have HN := Aside0.mk hno
    have HBB := Aside0.mk hB
    have HHK := Aside0.mk hk
    have HRR := HR.out
    have HTT := HT.out
    clear hno hB
    by_cases hi : i < s.size
    · cases gk with
      | zero => omega
      | succ g =>
      obtain ⟨x, hx⟩ : ∃ x : UInt8, s[i]'hi = x := ⟨_, rfl⟩
      have hxl : s.data.toList[i]? = some x := by rw [← hx]; exact Lib.data_getElem? s i hi
      have hat : at0 s i = x.toNat := by unfold at0; rw [dif_pos hi, hx]
      have Hx := Aside0.mk hxl
      by_cases ha : x.toNat < 128
      · have hnx := fun ty => Lib.run_next_ascii_at (P := Tryd.prog) wr w.heap.size s i ty hk hi (by rw [hx]; exact ha)
        rw [hx] at hnx
        have hback : ((x.toNat : Int)).toNat.toUInt8 = x := by simp
        have hcon := Lib.contains_iff_indexByte wild.data.toList x
        rw [← HTT] at hcon
        have HI := Aside0.mk (Lib.iterAt_heap wr w.heap.size s i (i + 1) hk)
        have HB1 := Aside0.mk (Lib.below_iterAt HBB.out (Nat.le_refl w.heap.size) s (i + 1))
        clear hxl hx hat hk
        cases hin : t.data.toList.contains x
        · rw [hin] at hcon
          have hlt : ¬ ((0 : Int) ≤ Lib.indexByte t.data.toList x) := of_decide_eq_false hcon.symm
          clear hcon HTT HRR
          go_wp2_with (go_at_call 73; refine (Tryd.strings_IndexRune_ascii _ _ _ (by omega) (by omega)).mono ?_; rintro e w' ⟨rfl, hw⟩; rw [hw, hback])
          go_roundg g
          case measure => omega
          case rel => exact ⟨i + 1, by omega, by omega, HN.out.succ Hx.out (by rw [← HT.out]; exact hin), HB1.out, HI.out⟩
        · rw [hin] at hcon
          have hge : (0 : Int) ≤ Lib.indexByte t.data.toList x := of_decide_eq_true hcon.symm
          clear hcon HTT HRR
          go_wp2_with (go_at_call 73; refine (Tryd.strings_IndexRune_ascii _ _ _ (by omega) (by omega)).mono ?_; rintro e w' ⟨rfl, hw⟩; rw [hw, hback])
          go_ret
          exact ⟨by rw [HR.out, wildL, Lib.indexAny_hit HN.out Hx.out (by rw [← HT.out]; exact hin)]; rfl, HB1.out⟩
      · have hnx := fun ty => Lib.run_next_any_at (P := Tryd.prog) wr w.heap.size s i ty hk hi
        have hd := dec_hi (at0 s i) (at0 s (i+1)) (at0 s (i+2)) (at0 s (i+3)) (by omega) (at0_lt _ _)
        rw [← decode_dec] at hd
        generalize Utf8.decode s i = dr at hd hnx
        obtain ⟨dc, dw⟩ := dr
        simp only at hd hnx
        have HI := Aside0.mk (Lib.iterAt_heap wr w.heap.size s i (i + dw) hk)
        have HB1 := Aside0.mk (Lib.below_iterAt HBB.out (Nat.le_refl w.heap.size) s (i + dw))
        have hall : ∀ j, j < dw → i + j < s.size ∧ 128 ≤ at0 s (i + j) := by
          have aux : ∀ k, 128 ≤ at0 s k → k < s.size := fun k h => by
            by_cases hk : k < s.size
            · exact hk
            · unfold at0 at h; rw [dif_neg hk] at h; omega
          intro j hj
          have hj4 : j = 0 ∨ j = 1 ∨ j = 2 ∨ j = 3 := by omega
          have h5 : 128 ≤ at0 s (i + j) := by
            rcases hj4 with rfl | rfl | rfl | rfl
            · rw [Nat.add_zero]; omega
            · exact hd.2.2.2.1 (by omega)
            · exact hd.2.2.2.2.1 (by omega)
            · exact hd.2.2.2.2.2.1 (by omega)
          exact ⟨aux _ h5, h5⟩
        have hle : i + dw ≤ s.size := by have := (hall (dw - 1) (by omega)).1; omega
        have HNN := Aside0.mk (noAny_skip s i dw HN.out hall)
        have hd1 : 128 ≤ dc := hd.1
        have hd2 : dc ≤ 1114111 := hd.2.1
        have hd3 : 1 ≤ dw := hd.2.2.1
        clear hxl hx hat hk hd hall HRR
        subst HTT
        go_wp2_with (go_at_call 73; refine (idxRune_hi _ _ (by omega) (by omega)).mono ?_; rintro e w1 ⟨rfl, hb⟩; have HB2 := Aside0.mk hb; clear hb)
        go_roundg g
        case measure => omega
        case rel => exact ⟨i + dw, by omega, hle, HNN.out, HB1.out.trans (HB2.out.mono HB1.out.size), (HB2.out.block _ (blk_lt HI.out)).trans HI.out⟩
    · have hnx := fun ty => Lib.run_next_end_at (P := Tryd.prog) wr w.heap.size s i ty hk hi
      obtain rfl : i = s.size := by omega
      clear HTT HRR
      go_wp2
      go_ret
      exact ⟨by rw [HR.out, wildL, Lib.indexAny_none (by rw [← Lib.size_eq]; exact HN.out)]; rfl, HBB.out⟩
theorem wild_ascii : ∀ (j : Nat) b, wild.data.toList[j]? = some b → b.toNat < 128 := by
  intro j b h
  have : b ∈ [(43 : UInt8), 35] := List.mem_of_getElem? h
  simp at this
  rcases this with rfl | rfl <;> decide
theorem indexAny_any (s : ByteArray) (w : World) (hs : s.size < 4294967281) :
    Calls Tryd.prog 68 #[.string s, .string wild] w fun e w' => e = .returned (.int .i64 (wildL s)) ∧ Below w.heap.size w w' := by
  by_cases h8 : s.size ≤ 8
  · exact indexAny_short s w h8
  · refine (Tryd.strings_IndexAny_long (fun w => by kernel_rfl) s wild w (by decide) (by omega) hs (by decide) wild_ascii).mono ?_
    rintro e w' ⟨rfl, rfl⟩
    exact ⟨rfl, ((Below.refl _ _).alloc (Nat.le_refl _) _).alloc (by simp) _⟩
def wildB (s : ByteArray) : Bool := decide (0 ≤ wildL s)
theorem containsAny_any (s : ByteArray) (w : World) (hs : s.size < 4294967281) :
    Calls Tryd.prog 57 #[.string s, .string ⟨#[43, 35]⟩] w fun e w' => e = .returned (.bool (wildB s)) ∧ Below w.heap.size w w' := by
  go_enter Tryd.func57, Tryd.ntmps57
  go_wp2_with (go_at_call 68; refine (indexAny_any s _ hs).mono ?_; rintro e w1 ⟨rfl, hB⟩; have HB := Aside0.mk hB; clear hB)
  go_ret
  exact ⟨rfl, HB.out⟩
def ttextE (s : ByteArray) : Int := if s.toList.isEmpty then 50 else if (chk s).2 != 0 then 51 else 0
theorem ttext_any (s : ByteArray) (w : World) :
    Calls Tryd.prog 56 #[.string s] w fun e w' => e = .returned (.int .i64 (ttextE s)) ∧ Below w.heap.size w w' := by
  obtain ⟨c, hc⟩ : ∃ c, chk s = c := ⟨_, rfl⟩
  have HE := Aside0.mk (show ttextE s = if s.toList.isEmpty then 50 else if c.2 != 0 then 51 else 0 by rw [← hc]; rfl)
  go_enter Tryd.func56, Tryd.ntmps56
  go_wp2_with (go_at_call 53; refine (check_any s _).mono ?_; rintro e w1 ⟨rfl, hB⟩; rw [hc]; have HB := Aside0.mk hB; clear hB)
  all_goals
    go_ret
    exact ⟨by rw [HE.out]; simp_all; try rfl, (by first | exact HB.out | exact Below.refl _ _)⟩
def topE (s : ByteArray) : Int := if ttextE s != 0 then ttextE s else if wildB s then 52 else 0
theorem ttext_short {s : ByteArray} (h : ttextE s = 0) : s.size < 4294967281 := by
  unfold ttextE at h
  split at h
  · omega
  · split at h
    · omega
    · rename_i h2
      have : (chk s).2 = 0 := by simpa using h2
      unfold chk at this
      split at this
      · simp at this
      · omega
theorem topicCheck_any (s : ByteArray) (w : World) :
    Calls Tryd.prog 40 #[.string s] w fun e w' => e = .returned (.int .i64 (topE s)) ∧ Below w.heap.size w w' := by
  obtain ⟨c, hc⟩ : ∃ c, ttextE s = c := ⟨_, rfl⟩
  have HE := Aside0.mk (show topE s = if c != 0 then c else if wildB s then 52 else 0 by rw [← hc]; rfl)
  have HS := Aside0.mk (fun h : c = 0 => ttext_short (hc.trans h))
  go_enter Tryd.func40, Tryd.ntmps40
  go_wp2_with (first
    | (go_at_call 56; refine (ttext_any s _).mono ?_; rintro e w1 ⟨rfl, hB⟩; rw [hc]; have HB := Aside0.mk hB; clear hB)
    | (go_at_call 57; refine (containsAny_any s _ (HS.out (by simp_all))).mono ?_; rintro e w2 ⟨rfl, hB⟩; have HB2 := Aside0.mk (HB.out.trans (hB.mono HB.out.size)); clear hB))
  all_goals
    go_ret
    exact ⟨by rw [HE.out]; simp_all; try rfl, (by first | exact HB2.out | exact HB.out)⟩
end Go.Proofs.YthlbcgaegaoanaaDoor.Cr

namespace Go.Proofs.YthlbcgaegaoanaaDoor.Cr
open Go Go.RowKit Go.Proofs.YthlbcgaegaoanaaDoorW.PrintWords Go.Proofs.YthlbcgaegaoanaaDoorW.PrintLast Go.Proofs.YthlbcgaegaoanaaDoorW.PrintMore Go.Proofs.YthlbcgaegaoanaaDoor.Kinds Go.Proofs.YthlbcgaegaoanaaDoor.Utf Go.Proofs.YthlbcgaegaoanaaDoor.Chk Go.Proofs.YthlbcgaegaoanaaDoor.Rdr
set_option linter.unusedVariables false
set_option linter.unusedSimpArgs false
theorem step_dec (s : ByteArray) (i : Nat) (hi : i < s.size) : (at0 s i < 128 ∧ Utf8.decode s i = (at0 s i, 1)) ∨ (128 ≤ at0 s i ∧ 128 ≤ (Utf8.decode s i).1 ∧ (Utf8.decode s i).1 ≤ 1114111 ∧ 1 ≤ (Utf8.decode s i).2 ∧ i + (Utf8.decode s i).2 ≤ s.size ∧ ∀ j, j < (Utf8.decode s i).2 → i + j < s.size ∧ 128 ≤ at0 s (i + j)) := by
  rw [decode_dec]
  by_cases h : at0 s i < 128
  · refine Or.inl ⟨h, ?_⟩
    unfold dec; rw [if_pos h]
  · have hd := dec_hi (at0 s i) (at0 s (i+1)) (at0 s (i+2)) (at0 s (i+3)) (by omega) (at0_lt _ _)
    have aux : ∀ k, 128 ≤ at0 s k → k < s.size := fun k h => by
      by_cases hk : k < s.size
      · exact hk
      · unfold at0 at h; rw [dif_neg hk] at h; omega
    generalize dec (at0 s i) (at0 s (i+1)) (at0 s (i+2)) (at0 s (i+3)) = dr at *
    have hall : ∀ j, j < dr.2 → i + j < s.size ∧ 128 ≤ at0 s (i + j) := by
      intro j hj
      have hj4 : j = 0 ∨ j = 1 ∨ j = 2 ∨ j = 3 := by omega
      have h5 : 128 ≤ at0 s (i + j) := by
        rcases hj4 with rfl | rfl | rfl | rfl
        · rw [Nat.add_zero]; omega
        · exact hd.2.2.2.1 (by omega)
        · exact hd.2.2.2.2.1 (by omega)
        · exact hd.2.2.2.2.2.1 (by omega)
      exact ⟨aux _ h5, h5⟩
    have := (hall (dr.2 - 1) (by omega)).1
    exact Or.inr ⟨by omega, hd.1, hd.2.1, hd.2.2.1, by omega, hall⟩
theorem iterAt_other (w : World) (b : Nat) (s : ByteArray) (p k : Nat) (h : k ≠ b) : (w.iterAt b s p).heap[k]? = w.heap[k]? := by
  show (w.heap.setIfInBounds b (.stringIter s p))[k]? = _
  rw [Array.getElem?_setIfInBounds_ne (by omega)]
def lvG (s : ByteArray) : Nat → List ByteArray → Nat → Nat → List ByteArray
  | 0, xs, f, p => xs ++ [s.extract f s.size]
  | g + 1, xs, f, p => if p < s.size then (if (Utf8.decode s p).1 = 47 then lvG s g (xs ++ [s.extract f p]) (p + 1) (p + (Utf8.decode s p).2) else lvG s g xs f (p + (Utf8.decode s p).2)) else xs ++ [s.extract f s.size]
def levelsL (s : ByteArray) : List ByteArray := lvG s (s.size + 1) [] 0 0
theorem lvG_len (s : ByteArray) : ∀ g xs f p, (lvG s g xs f p).length ≤ xs.length + g + 1 := by
  intro g
  induction g with
  | zero => intro xs f p; simp [lvG]
  | succ g ih =>
    intro xs f p
    simp only [lvG]
    split
    · split
      · refine Nat.le_trans (ih _ _ _) ?_; simp; omega
      · refine Nat.le_trans (ih _ _ _) ?_; omega
    · simp
theorem info_str : (Tryd.prog.info? 9).map (fun i => (i.zero, i.size, i.bytes)) = some (some (.string ⟨#[]⟩), 1, 16) := by kernel_rfl
set_option maxRecDepth 100000 in
set_option maxHeartbeats 4000000 in
theorem levels_any (s : ByteArray) (w : World) (hs : s.size ≤ 65535) :
    Calls Tryd.prog 69 #[.string s] w fun e w' => ∃ v, e = .returned v ∧ Kd.string.R 9 w' w.heap.size (fun _ => True) v (levelsL s) ∧ Below w.heap.size w w' := by
  obtain ⟨r, hr⟩ : ∃ r, lvG s (s.size + 1) [] 0 0 = r := ⟨_, rfl⟩
  have HR := Aside0.mk hr
  rw [show levelsL s = r from hr]
  clear hr
  go_enter Tryd.func69, Tryd.ntmps69
  go_wp2
  go_loopg [3, 4] (s.size + 1) (fun g v3 v4 wr => ∃ (xs : List ByteArray) (f p : Nat), v4 = .int .i64 (f : Int) ∧ Aside0 (lvG s g xs f p = r) ∧ s.size < p + g ∧ f ≤ p ∧ p ≤ s.size ∧ xs.length ≤ p ∧ Aside0 (Kd.string.R 9 wr w.heap.size (fun k => k ≠ w.heap.size) v3 xs) ∧ Aside0 (Below w.heap.size w wr) ∧ Aside0 (wr.heap[w.heap.size]? = some (.stringIter s p)))
  case atStart => exact ⟨[], 0, 0, rfl, HR, by omega, by omega, by omega, by simp, ⟨Kd.R_nil _ _ _ _ _⟩, ⟨(Below.refl _ _).alloc (Nat.le_refl _) _⟩, ⟨World.iter_heap _ _ _⟩⟩
  case round =>
    obtain ⟨xs, f, p, rfl, HG, hpg, hfp, hps, hxl, HV, HB, HI⟩ := hrel
    clear HR
    cases gk with
    | zero => omega
    | succ g =>
    have HW := Aside0.mk (blk_lt HI.out)
    obtain ⟨A3, c3, hu⟩ := Kd.R_slice HV.out
    subst hu
    by_cases hp : p < s.size
    · have hd := step_dec s p hp
      have hnx := fun ty => Lib.run_next_any_at (P := Tryd.prog) wr w.heap.size s p ty HI.out hp
      have hG := HG.out
      simp only [lvG] at hG
      rw [if_pos hp] at hG
      generalize Utf8.decode s p = dr at hd hnx hG
      obtain ⟨dc, dw⟩ := dr
      simp only at hd hnx hG
      have hw1 : 1 ≤ dw ∧ p + dw ≤ s.size := by
        rcases hd with ⟨h1, h2⟩ | ⟨h1, h2, h3, h4, h5, h6⟩
        · have : dw = 1 := by injection h2
          omega
        · omega
      have h47 : dc = 47 → dw = 1 := by
        intro h
        rcases hd with ⟨h1, h2⟩ | ⟨h1, h2, h3, h4, h5, h6⟩
        · injection h2
        · omega
      have HI1 := Aside0.mk (Lib.iterAt_heap wr w.heap.size s p (p + dw) HI.out)
      have HB1 := Aside0.mk (Lib.below_iterAt HB.out (Nat.le_refl w.heap.size) s (p + dw))
      have HV1 := Aside0.mk (Kd.R_step (w1 := wr.iterAt w.heap.size s (p + dw)) HV.out (fun k hk _ => iterAt_other _ _ _ _ _ hk))
      clear HG HV HB HI hd
      by_cases h4 : dc = 47
      · have hdw := h47 h4
        subst h4 hdw
        rw [if_pos rfl] at hG
        have HG := Aside0.mk hG
        clear hG h47
        go_wp2_with (at_builtin; refine Kd.R_append Kd.string (w0 := w) w.heap.size rfl (.tmp 15) (.tmp 20) 41 9 (.string ⟨#[]⟩) 16 rfl Tryd.underlying41 info_str rfl (by decide) (by omega) (.slice A3 xs.length c3) xs (s.extract f p) [.string (s.extract f p)] (fun k => k ≠ w.heap.size) (fun _ => False) rfl rfl ?aP (fun _ hk => hk.elim) ?aF HV1.out HB1.out ?aS ?aL ?_)
        case aP => exact rfl
        case aF => intro k hk e; have := blk_lt HI1.out; omega
        case aS => exact HB1.out.size
        case aL => omega
        intro v1 w1 ho hb hg hat
        have HO := Aside0.mk ho
        have HB2 := Aside0.mk hb
        have HI2 := Aside0.mk ((hg.block _ (blk_lt HI1.out) (fun e => HV1.out.1 _ e.symm rfl)).trans HI1.out)
        clear ho hb hg hat
        go_wp2
        go_roundg g
        case measure => omega
        case rel => exact ⟨xs ++ [s.extract f p], p + 1, p + 1, by simp, HG, by omega, by omega, by omega, by simp; omega, HO, HB2, HI2⟩
      · have h4b : ((dc : Int) == 47) = false := by simp; omega
        rw [if_neg h4] at hG
        have HG := Aside0.mk hG
        clear hG h47
        go_wp2
        go_roundg g
        case measure => omega
        case rel => exact ⟨xs, f, p + dw, rfl, HG, by omega, by omega, by omega, by omega, HV1, HB1, HI1⟩
    · have hnx := fun ty => Lib.run_next_end_at (P := Tryd.prog) wr w.heap.size s p ty HI.out hp
      have hG := HG.out
      simp only [lvG] at hG
      rw [if_neg hp] at hG
      clear HG
      have HG := Aside0.mk hG
      clear hG
      have hfs : f ≤ s.size := by omega
      go_wp2_with (at_builtin; refine Kd.R_append Kd.string (w0 := w) w.heap.size rfl (.tmp 24) (.tmp 28) 41 9 (.string ⟨#[]⟩) 16 rfl Tryd.underlying41 info_str rfl (by decide) (by omega) (.slice A3 xs.length c3) xs (s.extract f s.size) [.string (s.extract f s.size)] (fun k => k ≠ w.heap.size) (fun _ => False) rfl rfl ?aP (fun _ hk => hk.elim) ?aF HV.out HB.out ?aS ?aL ?_)
      case aP => exact rfl
      case aF => intro k hk e; have := blk_lt HI.out; omega
      case aS => exact HB.out.size
      case aL => omega
      intro v1 w1 ho hb hg hat
      rw [HG.out] at ho
      have HO := Aside0.mk ho
      have HB2 := Aside0.mk hb
      clear ho hb hg hat
      go_wp2
      go_ret
      exact ⟨v1, rfl, Kd.R_mono HO.out (fun _ _ => trivial), HB2.out⟩
theorem ttext_len {s : ByteArray} (h : ttextE s = 0) : s.size ≤ 65535 := by
  unfold ttextE at h
  split at h
  · omega
  · split at h
    · omega
    · rename_i h2
      have : (chk s).2 = 0 := by simpa using h2
      unfold chk at this
      split at this
      · simp at this
      · omega
def lvBad (l : ByteArray) (last : Bool) : Bool := wildB l && (decide (1 < l.size) || (at0 l 0 == 35 && !last))
def badG (xs : List ByteArray) : Nat → Nat → Bool
  | 0, _ => false
  | g + 1, i => if i < xs.length then lvBad (rdOf ByteArray.empty xs i) (decide (xs.length ≤ i + 1)) || badG xs g (i + 1) else false
def filtE (s : ByteArray) : Int := if ttextE s != 0 then ttextE s else if badG (levelsL s) ((levelsL s).length + 1) 0 then 52 else 0
theorem wildB_no {s : ByteArray} (h : Lib.NoAny s.data.toList wild.data.toList s.size) : wildB s = false := by
  unfold wildB wildL
  rw [Lib.indexAny_none (by rw [← Lib.size_eq]; exact h)]; rfl
theorem indexAny_mem (chars : List UInt8) : ∀ (l : List UInt8) (x : UInt8), x ∈ l → chars.contains x = true → 0 ≤ Lib.indexAny l chars
  | [], _, h, _ => by simp at h
  | b :: l, x, h, hc => by
    unfold Lib.indexAny
    split
    · omega
    · rename_i hb
      rcases List.mem_cons.1 h with rfl | h
      · exact absurd hc hb
      · have ih := indexAny_mem chars l x h hc
        rw [if_neg (by simp; omega)]
        omega
theorem wildB_yes {s : ByteArray} {p : Nat} (hp : p < s.size) (h : at0 s p = 43 ∨ at0 s p = 35) : wildB s = true := by
  unfold wildB
  refine decide_eq_true ?_
  unfold wildL
  have hx : s.data.toList[p]? = some (s[p]'hp) := Lib.data_getElem? s _ hp
  have hat : at0 s p = (s[p]'hp).toNat := by unfold at0; rw [dif_pos hp]
  rw [hat] at h
  generalize s[p]'hp = x at *
  refine indexAny_mem _ _ x (List.mem_of_getElem? hx) ?_
  show [(43 : UInt8), 35].contains x = true
  rcases h with h | h
  · have : x = 43 := by rw [← UInt8.toNat_inj]; exact h
    subst this; rfl
  · have : x = 35 := by rw [← UInt8.toNat_inj]; exact h
    subst this; rfl
set_option maxRecDepth 100000 in
set_option maxHeartbeats 4000000 in
theorem filt_any (s : ByteArray) (w : World) :
    Calls Tryd.prog 59 #[.string s] w fun e w' => e = .returned (.int .i64 (filtE s)) ∧ Below w.heap.size w w' := by
  obtain ⟨c, hc⟩ : ∃ c, ttextE s = c := ⟨_, rfl⟩
  obtain ⟨xs, hxs⟩ : ∃ xs, levelsL s = xs := ⟨_, rfl⟩
  obtain ⟨b, hb⟩ : ∃ b, badG xs (xs.length + 1) 0 = b := ⟨_, rfl⟩
  have HE := Aside0.mk (show filtE s = if c != 0 then c else if b then 52 else 0 by rw [← hc, ← hb, ← hxs]; rfl)
  have HS := Aside0.mk (fun h : c = 0 => ttext_len (hc.trans h))
  have hxl : c = 0 → xs.length ≤ 65538 := fun h => by rw [← hxs]; have := HS.out h; have := lvG_len s (s.size + 1) [] 0 0; simp at this; unfold levelsL; omega
  have HB0 := Aside0.mk hb
  have HXL := Aside0.mk hxl
  clear hb hxl
  go_enter Tryd.func59, Tryd.ntmps59
  go_wp2
  refine wp_scope_straight ?_
  go_wp2_with (first
    | (go_at_call 56; refine (ttext_any s _).mono ?_; rintro e w1 ⟨rfl, hB⟩; rw [hc]; have HB := Aside0.mk hB; clear hB)
    | (go_at_call 69; refine (levels_any s _ (HS.out (by simp_all))).mono ?_; rintro e w2 ⟨v, rfl, hR, hB⟩; rw [hxs] at hR; have HR := Aside0.mk hR; have HB2 := Aside0.mk (HB.out.trans (hB.mono HB.out.size)); clear hB hR; obtain ⟨A, cp, hv⟩ := Kd.R_slice HR.out; subst hv))
  · try simp only [Exit.noGoto]
    go_ret
    exact ⟨by rw [HE.out]; simp_all, HB.out⟩
  have hc0 : c = 0 := by simp_all
  have hxl := HXL.out hc0
  clear HXL
  subst hc0
  refine wp_label ?_
  go_wp2
  go_loopg [18] (xs.length + 1) (fun q v18 wr => ∃ i : Nat, v18 = .int .i64 (i : Int) ∧ Aside0 (badG xs q i = b) ∧ xs.length < i + q ∧ i ≤ xs.length ∧ Aside0 (Kd.string.R 9 wr w.heap.size (fun _ => True) (.slice A xs.length cp) xs) ∧ Aside0 (Below w.heap.size w wr))
  case atStart => exact ⟨0, by simp, HB0, by omega, by omega, ⟨Kd.R_lower HR.out HB.out.size⟩, HB2⟩
  case round =>
    obtain ⟨i, rfl, HG, hiq, hil, HR, HB2⟩ := hrel
    clear HB0 hc hxs
    cases gk with
    | zero => omega
    | succ q =>
    have hG := HG.out
    simp only [badG] at hG
    clear HG
    by_cases hi : i < xs.length
    · rw [if_pos hi] at hG
      obtain ⟨ad, hA, hcell⟩ := Kd.at_string (Kd.R_reads' HR.out).2.2 (i : Int) (by omega) (by omega)
      subst hA
      obtain ⟨lv, hlv⟩ : ∃ lv, rdOf ByteArray.empty xs i = lv := ⟨_, rfl⟩
      rw [hlv] at hG hcell
      have hlt : ((i : Int) < (xs.length : Int)) := by omega
      rw [Int.toNat_natCast] at hcell
      have HG := Aside0.mk hG
      have HLV := Aside0.mk hlv
      clear hG hlv
      go_wp2
      go_loopg [] (lv.size + 1) (fun g wx => ∃ p : Nat, wx = wr.iter lv p ∧ lv.size < p + g ∧ p ≤ lv.size ∧ Aside0 (Lib.NoAny lv.data.toList wild.data.toList p))
      case atStart => exact ⟨0, rfl, by omega, by omega, ⟨Lib.NoAny.zero _ _⟩⟩
      case round =>
        obtain ⟨p, rfl, hpg, hps, HN⟩ := hrel
        cases gk with
        | zero => omega
        | succ g =>
        by_cases hp : p < lv.size
        · have hnx := fun ty => run_next_any (P := Tryd.prog) wr lv p ty hp
          have hd := step_dec lv p hp
          generalize Utf8.decode lv p = dr at hd hnx
          obtain ⟨dc, dw⟩ := dr
          simp only at hd hnx
          by_cases hw : dc = 43 ∨ dc = 35
          · have hat : at0 lv p = dc ∧ dw = 1 := by
              rcases hd with ⟨h1, h2⟩ | ⟨h1, h2, _⟩
              · injection h2 with h2 h3; exact ⟨h2.symm, h3⟩
              · omega
            have hwb := wildB_yes hp (by omega)
            have hG := HG.out
            unfold lvBad at hG
            rw [hwb, Bool.true_and] at hG
            clear HG hd
            by_cases h1 : 1 < lv.size
            · have hb : b = true := by rw [← hG]; simp [h1]
              subst hb
              have h1b : decide (1 < lv.size) = true := by simp [h1]
              clear hG hwb hat
              rcases hw with rfl | rfl
              · go_wp2
                try simp only [Exit.noGoto]
                go_ret
                exact ⟨by rw [HE.out]; rfl, HB2.out.alloc HB2.out.size _⟩
              · go_wp2
                try simp only [Exit.noGoto]
                go_ret
                exact ⟨by rw [HE.out]; rfl, HB2.out.alloc HB2.out.size _⟩
            · have h1b : decide (1 < lv.size) = false := by simp; omega
              obtain rfl : p = 0 := by omega
              have hat0 : at0 lv 0 = dc := hat.1
              rw [hat0] at hG
              clear hwb hat hat0
              rcases hw with rfl | rfl
              · have HG2 := Aside0.mk (show badG xs q (i + 1) = b by rw [← hG]; simp [h1b])
                clear hG
                go_wp2
                go_roundg q
                case measure => omega
                case rel => exact ⟨i + 1, by simp, HG2, by omega, by omega, ⟨Kd.R_below HR.out ((Below.refl _ _).alloc (Nat.le_refl _) _)⟩, ⟨HB2.out.alloc HB2.out.size _⟩⟩
              · by_cases hl : xs.length ≤ i + 1
                · have hl2 : decide ((i : Int) < (xs.length : Int) - 1) = false := by simp; omega
                  have HG2 := Aside0.mk (show badG xs q (i + 1) = b by rw [← hG]; simp [h1b, hl])
                  clear hG
                  go_wp2
                  go_roundg q
                  case measure => omega
                  case rel => exact ⟨i + 1, by simp, HG2, by omega, by omega, ⟨Kd.R_below HR.out ((Below.refl _ _).alloc (Nat.le_refl _) _)⟩, ⟨HB2.out.alloc HB2.out.size _⟩⟩
                · have hl2 : decide ((i : Int) < (xs.length : Int) - 1) = true := by simp; omega
                  have hb : b = true := by rw [← hG]; simp [hl]
                  subst hb
                  clear hG
                  go_wp2
                  try simp only [Exit.noGoto]
                  go_ret
                  exact ⟨by rw [HE.out]; rfl, HB2.out.alloc HB2.out.size _⟩
          · have hn1 : ((dc : Int) != 43) = true := by simp; omega
            have hn2 : ((dc : Int) != 35) = true := by simp; omega
            have hw1 : 1 ≤ dw ∧ p + dw ≤ lv.size ∧ Lib.NoAny lv.data.toList wild.data.toList (p + dw) := by
              rcases hd with ⟨h1, h2⟩ | ⟨h1, h2, h3, h4, h5, h6⟩
              · have h2b := h2
                injection h2 with h2 h3
                subst h3
                refine ⟨by omega, by omega, ?_⟩
                have hx : lv.data.toList[p]? = some (lv[p]'hp) := Lib.data_getElem? lv _ hp
                refine Lib.NoAny.succ HN.out hx ?_
                have hat : at0 lv p = (lv[p]'hp).toNat := by unfold at0; rw [dif_pos hp]
                show [(43 : UInt8), 35].contains _ = false
                simp only [List.contains_cons, List.contains_nil, Bool.or_false, Bool.or_eq_false_iff, beq_eq_false_iff_ne]
                constructor <;> (intro e; rw [e] at hat; simp at hat; omega)
              · exact ⟨h4, h5, noAny_skip lv p dw HN.out h6⟩
            obtain ⟨hw1, hw2, hn⟩ := hw1
            have HN2 := Aside0.mk hn
            clear HN hd hn hw
            go_wp2
            go_roundg g
            case measure => omega
            case rel => exact ⟨p + dw, rfl, by omega, by omega, HN2⟩
        · have hnx := fun ty => run_next_end (P := Tryd.prog) wr lv p ty hp
          obtain rfl : p = lv.size := by omega
          have HG2 := Aside0.mk (show badG xs q (i + 1) = b by have := HG.out; rw [lvBad, wildB_no HN.out] at this; simpa using this)
          clear HG
          go_wp2
          go_roundg q
          case measure => omega
          case rel => exact ⟨i + 1, by simp, HG2, by omega, by omega, ⟨Kd.R_below HR.out ((Below.refl _ _).alloc (Nat.le_refl _) _)⟩, ⟨HB2.out.alloc HB2.out.size _⟩⟩
    · obtain rfl : i = xs.length := by omega
      have hlt : decide ((xs.length : Int) < (xs.length : Int)) = false := by simp
      rw [if_neg hi] at hG
      subst hG
      go_wp2
      try simp only [Exit.noGoto]
      go_ret
      exact ⟨by rw [HE.out]; rfl, HB2.out⟩
end Go.Proofs.YthlbcgaegaoanaaDoor.Cr

namespace Go.Proofs.YthlbcgaegaoanaaDoor.Cr
open Go Go.RowKit Go.Proofs.YthlbcgaegaoanaaDoorW.PrintWords Go.Proofs.YthlbcgaegaoanaaDoorW.PrintLast Go.Proofs.YthlbcgaegaoanaaDoorW.PrintMore Go.Proofs.YthlbcgaegaoanaaDoor.Kinds Go.Proofs.YthlbcgaegaoanaaDoor.Utf Go.Proofs.YthlbcgaegaoanaaDoor.Chk Go.Proofs.YthlbcgaegaoanaaDoor.Rdr
set_option linter.unusedVariables false
set_option linter.unusedSimpArgs false
def notF (s : ByteArray) : Bool := filtE s != 0
theorem filters1_any (s : ByteArray) (w : World) :
    Calls Tryd.prog 58 #[.string s] w fun e w' => e = .returned (.bool (notF s)) ∧ Below w.heap.size w w' := by
  go_enter Tryd.func58, Tryd.ntmps58
  go_wp2_with (go_at_call 59; refine (filt_any s _).mono ?_; rintro e w1 ⟨rfl, hB⟩; have HB := Aside0.mk hB; clear hB)
  go_ret
  exact ⟨rfl, HB.out⟩
def f1V : Value := .func (.func 58) #[] #[]
theorem filters2_any (s : ByteArray) (q : Int) (G : Nat) (w : World) (h : w.cell? ⟨G, 0, none⟩ = some f1V) (hG : G < w.heap.size) :
    Calls Tryd.prog 62 #[.agg #[.string s, .int .i64 q], .pointer (some ⟨G, 0, none⟩)] w fun e w' => e = .returned (.bool (notF s)) ∧ Below w.heap.size w w' := by
  have h2 : ∀ o, (w.alloc o).cell? ⟨G, 0, none⟩ = some (.func (.func 58) #[] #[]) := fun o => (World.cell?_alloc_past _ _ _ hG).trans h
  go_enter Tryd.func62, Tryd.ntmps62
  go_wp2_with (go_at_call 58; refine (filters1_any s _).mono ?_; rintro e w1 ⟨rfl, hB⟩; have HB := Aside0.mk hB; clear hB)
  go_ret
  exact ⟨rfl, (below_alloc (Below.refl _ _) _).trans (HB.out.mono (by simp))⟩
set_option maxRecDepth 100000 in
theorem indexFunc_str (xs : List ByteArray) (A : Option Addr) (c : Nat) (w : World) (hR : Kd.string.C w A xs.length xs) (hl : xs.length ≤ 1099511627776) :
    Calls Tryd.prog 70 #[.slice A xs.length c, .func (.func 58) #[] #[]] w fun e w' => ∃ r, e = .returned (.int .i64 r) ∧ decide (0 ≤ r) = xs.any notF ∧ Below w.heap.size w w' := by
  obtain ⟨b, hb⟩ : ∃ b, xs.any notF = b := ⟨_, rfl⟩
  rw [hb]
  have HR := Aside0.mk hR
  have HB0 := Aside0.mk (show (xs.drop 0).any notF = b from hb)
  clear hR hb
  go_enter Tryd.func70, Tryd.ntmps70
  go_wp2
  go_loopg [5, 8] (xs.length + 1) (fun q v5 v8 wr => ∃ i : Nat, v8 = .int .i64 (i : Int) ∧ Aside0 ((xs.drop i).any notF = b) ∧ xs.length < i + q ∧ i ≤ xs.length ∧ Aside0 (Below w.heap.size w wr))
  case atStart => exact ⟨0, by simp, HB0, by omega, by omega, ⟨Below.refl _ _⟩⟩
  case round =>
    obtain ⟨i, rfl, HG, hiq, hil, HB⟩ := hrel
    clear HB0
    cases gk with
    | zero => omega
    | succ q =>
    by_cases hi : i < xs.length
    · have hC := Kd.C_below HR.out HB.out
      obtain ⟨ad, hA, hcell⟩ := Kd.at_string hC (i : Int) (by omega) (by omega)
      subst hA
      rw [Int.toNat_natCast] at hcell
      have hG := HG.out
      have hx : rdOf ByteArray.empty xs (i : Int) = xs[i] := by unfold rdOf; rw [Int.toNat_natCast, List.getD_eq_getElem?_getD, List.getElem?_eq_getElem hi]; rfl
      rw [hx] at hcell
      rw [List.drop_eq_getElem_cons hi, List.any_cons] at hG
      generalize xs[i] = lv at *
      have hlt : ((i : Int) < (xs.length : Int)) := by omega
      obtain ⟨c1, hc1⟩ : ∃ c, notF lv = c := ⟨_, rfl⟩
      rw [hc1] at hG
      clear HG hC hx
      have HG := Aside0.mk hG
      clear hG
      cases c1 with
      | true =>
        go_wp2_with (go_at_call 58; refine (filters1_any lv _).mono ?_; rintro e w1 ⟨rfl, hB⟩; rw [hc1]; have HB2 := Aside0.mk (HB.out.trans (hB.mono HB.out.size)); clear hB)
        go_ret
        exact ⟨i, rfl, by rw [← HG.out]; simp, HB2.out⟩
      | false =>
        go_wp2_with (go_at_call 58; refine (filters1_any lv _).mono ?_; rintro e w1 ⟨rfl, hB⟩; rw [hc1]; have HB2 := Aside0.mk (HB.out.trans (hB.mono HB.out.size)); clear hB)
        go_roundg q
        case measure => omega
        case rel => exact ⟨i + 1, by simp, ⟨by have := HG.out; simpa using this⟩, by omega, by omega, HB2⟩
    · obtain rfl : i = xs.length := by omega
      have hlt : decide ((xs.length : Int) < (xs.length : Int)) = false := by simp
      have hG := HG.out
      rw [List.drop_length] at hG
      subst hG
      go_wp2
      go_ret
      exact ⟨-1, rfl, rfl, HB.out⟩
theorem cell_nospot {w : World} {a : Addr} {v : Value} (h : w.cell? a = some v) : w.cell? { block := a.block, off := a.off } = some v := by
  obtain ⟨b, o, sp⟩ := a
  cases sp with
  | none => exact h
  | some x =>
    unfold World.cell? at h
    simp only [Option.isSome_some, if_true] at h
    split at h <;> simp at h
theorem Addr.add_off1 (a : Addr) (k : Nat) : ({ block := (a.add (k + 1)).block, off := (a.add (k + 1)).off } : Addr) = { block := (a.add k).block, off := (a.add k).off + 1 } := by
  by_cases h : k = 0 <;> simp [Addr.add, h, Nat.add_assoc]
theorem ask_K {w : World} {a : AskV} {cs : List Value} (h : kAsk.K w a cs) : cs = [.string a.filter, .int .i64 a.qos] := by
  obtain ⟨c0, c1, rfl, h0, h1⟩ := h
  have h0' : c0 = [.string a.filter] := h0
  have h1' : c1 = [.int .i64 a.qos] := h1
  subst h0' h1'
  rfl
def notA (a : AskV) : Bool := notF a.filter
theorem ask_at {w : World} {A : Option Addr} {n : Nat} {xs : List AskV} (h : kAsk.C w A n xs) (i : Nat) (hi : i < n) (hx : i < xs.length) :
    ∃ ad, A = some ad ∧ w.cell? (ad.add (i * 2)) = some (.string xs[i].filter) ∧ w.cell? (ad.add (i * 2 + 1)) = some (.int .i64 xs[i].qos) := by
  obtain ⟨ad, c, hA, _, hK, hc⟩ := Kd.C_get h ⟨⟨#[]⟩, 0⟩ (i : Int) (by omega) (by omega)
  rw [Int.toNat_natCast, List.getD_eq_getElem?_getD, List.getElem?_eq_getElem hx] at hK
  have := ask_K hK
  subst this
  have hsz : kAsk.sz = 2 := rfl
  exact ⟨ad, hA, by have := hc 0 _ rfl; simpa [hsz] using this, by have := hc 1 _ rfl; simpa [hsz] using this⟩
set_option maxRecDepth 100000 in
theorem indexFunc_ask (xs : List AskV) (A : Option Addr) (c G : Nat) (w : World) (hR : kAsk.C w A xs.length xs) (hl : xs.length ≤ 1099511627776) (hf : w.cell? ⟨G, 0, none⟩ = some f1V) (hG : G < w.heap.size) :
    Calls Tryd.prog 71 #[.slice A xs.length c, .func (.func 62) #[] #[.pointer (some ⟨G, 0, none⟩)]] w fun e w' => ∃ r, e = .returned (.int .i64 r) ∧ decide (0 ≤ r) = xs.any notA ∧ Below w.heap.size w w' := by
  obtain ⟨b, hb⟩ : ∃ b, xs.any notA = b := ⟨_, rfl⟩
  rw [hb]
  have HR := Aside0.mk hR
  have HF := Aside0.mk hf
  have HB0 := Aside0.mk (show (xs.drop 0).any notA = b from hb)
  clear hR hb hf
  go_enter Tryd.func71, Tryd.ntmps71
  go_wp2
  go_loopg [5, 8] (xs.length + 1) (fun q v5 v8 wr => ∃ i : Nat, v8 = .int .i64 (i : Int) ∧ Aside0 ((xs.drop i).any notA = b) ∧ xs.length < i + q ∧ i ≤ xs.length ∧ Aside0 (Below w.heap.size w wr))
  case atStart => exact ⟨0, by simp, HB0, by omega, by omega, ⟨Below.refl _ _⟩⟩
  case round =>
    obtain ⟨i, rfl, HG, hiq, hil, HB⟩ := hrel
    clear HB0
    cases gk with
    | zero => omega
    | succ q =>
    by_cases hi : i < xs.length
    · have hC := Kd.C_below HR.out HB.out
      obtain ⟨ad, hA, hc1, hc2⟩ := ask_at hC i hi hi
      subst hA
      have hc2 : wr.cell? { block := (ad.add (i * 2)).block, off := (ad.add (i * 2)).off + 1 } = some (.int .i64 xs[i].qos) := by
        have h3 := cell_nospot hc2
        rw [Addr.add_off1] at h3
        exact h3
      have HF2 := Aside0.mk ((World.cell?_of_block (HB.out.block G hG)).trans HF.out)
      have HGs := Aside0.mk (Nat.lt_of_lt_of_le hG HB.out.size)
      have hG := HG.out
      rw [List.drop_eq_getElem_cons hi, List.any_cons] at hG
      generalize xs[i] = a at *
      obtain ⟨fl, qs⟩ := a
      have hlt : ((i : Int) < (xs.length : Int)) := by omega
      obtain ⟨c1, hc1'⟩ : ∃ c, notF fl = c := ⟨_, rfl⟩
      rw [show notA ⟨fl, qs⟩ = c1 from hc1'] at hG
      clear HG hC
      have HG := Aside0.mk hG
      clear hG
      cases c1 with
      | true =>
        go_wp2_with (go_at_call 62; refine (filters2_any fl qs G _ HF2.out HGs.out).mono ?_; rintro e w1 ⟨rfl, hB⟩; rw [hc1']; have HB2 := Aside0.mk (HB.out.trans (hB.mono HB.out.size)); clear hB)
        go_ret
        exact ⟨i, rfl, by rw [← HG.out]; simp, HB2.out⟩
      | false =>
        go_wp2_with (go_at_call 62; refine (filters2_any fl qs G _ HF2.out HGs.out).mono ?_; rintro e w1 ⟨rfl, hB⟩; rw [hc1']; have HB2 := Aside0.mk (HB.out.trans (hB.mono HB.out.size)); clear hB)
        go_roundg q
        case measure => omega
        case rel => exact ⟨i + 1, by simp, ⟨by have := HG.out; simpa using this⟩, by omega, by omega, HB2⟩
    · obtain rfl : i = xs.length := by omega
      have hlt : decide ((xs.length : Int) < (xs.length : Int)) = false := by simp
      have hG := HG.out
      rw [List.drop_length] at hG
      subst hG
      go_wp2
      go_ret
      exact ⟨-1, rfl, rfl, HB.out⟩
set_option maxRecDepth 100000 in
theorem containsFunc_str (xs : List ByteArray) (A : Option Addr) (c : Nat) (w : World) (hR : Kd.string.C w A xs.length xs) (hl : xs.length ≤ 1099511627776) :
    Calls Tryd.prog 60 #[.slice A xs.length c, .func (.func 58) #[] #[]] w fun e w' => e = .returned (.bool (xs.any notF)) ∧ Below w.heap.size w w' := by
  have HR := Aside0.mk hR
  clear hR
  go_enter Tryd.func60, Tryd.ntmps60
  go_wp2_with (go_at_call 70; (with_reducible refine (indexFunc_str xs A c _ HR.out hl).mono ?_); rintro e w1 ⟨r, rfl, hr, hB⟩; have HB := Aside0.mk hB; have HRR := Aside0.mk hr; clear hB hr)
  go_ret
  exact ⟨by rw [← HRR.out]; rfl, HB.out⟩
set_option maxRecDepth 100000 in
theorem containsFunc_ask (xs : List AskV) (A : Option Addr) (c G : Nat) (w : World) (hR : kAsk.C w A xs.length xs) (hl : xs.length ≤ 1099511627776) (hf : w.cell? ⟨G, 0, none⟩ = some f1V) (hG : G < w.heap.size) :
    Calls Tryd.prog 61 #[.slice A xs.length c, .func (.func 62) #[] #[.pointer (some ⟨G, 0, none⟩)]] w fun e w' => e = .returned (.bool (xs.any notA)) ∧ Below w.heap.size w w' := by
  have HR := Aside0.mk hR
  have HF := Aside0.mk hf
  clear hR hf
  go_enter Tryd.func61, Tryd.ntmps61
  go_wp2_with (go_at_call 71; (with_reducible refine (indexFunc_ask xs A c G _ HR.out hl HF.out hG).mono ?_); rintro e w1 ⟨r, rfl, hr, hB⟩; have HB := Aside0.mk hB; have HRR := Aside0.mk hr; clear hB hr)
  go_ret
  exact ⟨by rw [← HRR.out]; rfl, HB.out⟩
theorem wp_wldF {P : Program} {c : Code} {Q : Exit → Act → World → Prop} {a : Act} {w w2 : World} (h : w = w2) (h2 : c.wp P Q a w2) : c.wp P Q a w := h ▸ h2
def filtersB (p : Pkt) : Bool := !(p.filters.any notF) && !(p.asks.any notA)
set_option maxRecDepth 100000 in
set_option maxHeartbeats 4000000 in
theorem filters_any (p : Pkt) (cs : List Value) (w : World) (h : kPkt.K w p cs) (hf : p.filters.length ≤ 1099511627776) (ha : p.asks.length ≤ 1099511627776) :
    Calls Tryd.prog 41 #[.agg cs.toArray] w fun e w' => e = .returned (.bool (filtersB p)) ∧ Below w.heap.size w w' := by
  obtain ⟨Aw, nw, Ap, np, Am, nm, Aa, na, Ac, nc, Af, nf, hcs, _, _, _, hA, _, hF⟩ := pkt_K h
  obtain ⟨X, hX⟩ : ∃ X : World, X = w.alloc (.cells cs.toArray 43) := ⟨_, rfl⟩
  have hBX : Below w.heap.size w X := by rw [hX]; exact below_alloc (Below.refl _ _) _
  have hg0 : X.heap[w.heap.size]? = some (.cells cs.toArray 43 (0, 0)) := by rw [hX]; exact heap_alloc_new _ _
  have gx0 := blk_lt hg0
  rw [hcs] at hg0
  have b18 : ∀ w', Below X.heap.size X w' → w'.cell? ⟨w.heap.size, 24, none⟩ = some (.slice Af p.filters.length nf) := fun w' hb => blk_cell ((hb.block _ gx0).trans hg0) 24
  have b16 : ∀ w', Below X.heap.size X w' → w'.cell? ⟨w.heap.size, 22, none⟩ = some (.slice Aa p.asks.length na) := fun w' hb => blk_cell ((hb.block _ gx0).trans hg0) 22
  obtain ⟨cf, hcf⟩ : ∃ c, p.filters.any notF = c := ⟨_, rfl⟩
  obtain ⟨ca, hca⟩ : ∃ c, p.asks.any notA = c := ⟨_, rfl⟩
  have HE := Aside0.mk (show filtersB p = (!cf && !ca) by rw [← hcf, ← hca]; rfl)
  have HC := Aside0.mk hF.2
  have HA := Aside0.mk hA.2
  have HBX := Aside0.mk hBX
  have HX := Aside0.mk hX
  have B18 := Aside0.mk b18
  have B16 := Aside0.mk b16
  have HCF := Aside0.mk hcf
  have HCA := Aside0.mk hca
  clear h hcs hX hBX hg0 hA hF b18 b16 hcf hca
  go_enter Tryd.func41, Tryd.ntmps41
  go_upto_region 1 with fail
  refine wp_wldF (w2 := X) (by rw [HX.out]) ?_
  go_upto_region 2 with fail
  obtain ⟨Y, hY⟩ : ∃ Y : World, Y = X.alloc (.cells #[Value.func (Fn.func 58) #[] #[]] 102) := ⟨_, rfl⟩
  obtain ⟨G, hG⟩ : ∃ G, G = X.heap.size := ⟨_, rfl⟩
  rw [← hY, ← hG]
  have hBY : Below X.heap.size X Y := by rw [hY]; exact below_alloc (Below.refl _ _) _
  have gG : G < Y.heap.size := by rw [hY, hG]; simp
  have c3 : Y.cell? ⟨G, 0, none⟩ = some f1V := by rw [hY, hG]; exact World.cell?_alloc_at _ _ _ _ rfl
  have c24 := B18.out Y hBY
  have HG1 := Aside0.mk (fun (w1 : World) (hb : Below Y.heap.size Y w1) => (And.intro (B16.out w1 (hBY.trans (hb.mono hBY.size))) ((World.cell?_of_block (hb.block G gG)).trans c3)))
  have HGS := Aside0.mk gG
  have HBY := Aside0.mk (HBX.out.trans (hBY.mono HBX.out.size))
  have HC2 := Aside0.mk (Kd.C_below HC.out (show Below w.heap.size w Y from HBY.out))
  have HA2 := Aside0.mk (Kd.C_below HA.out (show Below w.heap.size w Y from HBY.out))
  unfold f1V at c3
  clear hBY hG hY HC HA B16 B18 HX HBX gx0 gG
  cases cf with
  | true =>
    go_wp2_with (go_at_call 60; (with_reducible refine (containsFunc_str p.filters Af nf _ HC2.out hf).mono ?_); rintro e w1 ⟨rfl, hB⟩; rw [HCF.out]; have HB := Aside0.mk (HBY.out.trans (hB.mono HBY.out.size)); clear hB)
    go_ret
    exact ⟨by rw [HE.out]; rfl, HB.out⟩
  | false =>
    go_wp2_with (first
      | (go_at_call 60; (with_reducible refine (containsFunc_str p.filters Af nf _ HC2.out hf).mono ?_); rintro e w1 ⟨rfl, hB⟩; rw [HCF.out]; have HB := Aside0.mk (HBY.out.trans (hB.mono HBY.out.size)); have HBS := Aside0.mk hB.size; have HCA3 := Aside0.mk (Kd.C_below HA2.out hB); obtain ⟨c22, c3b⟩ := HG1.out w1 hB; have HF3 := Aside0.mk c3b; clear hB c24 c3 c3b)
      | (go_at_call 61; (with_reducible refine (containsFunc_ask p.asks Aa na G _ HCA3.out ha HF3.out (Nat.lt_of_lt_of_le HGS.out HBS.out)).mono ?_); rintro e w2 ⟨rfl, hB⟩; rw [HCA.out]; have HB2 := Aside0.mk (HB.out.trans (hB.mono HB.out.size)); clear hB))
    go_ret
    exact ⟨by rw [HE.out]; rfl, HB2.out⟩
end Go.Proofs.YthlbcgaegaoanaaDoor.Cr

namespace Go.Proofs.YthlbcgaegaoanaaDoor.Cr
open Go Go.RowKit Go.Proofs.YthlbcgaegaoanaaDoorW.PrintWords Go.Proofs.YthlbcgaegaoanaaDoorW.PrintLast Go.Proofs.YthlbcgaegaoanaaDoorW.PrintMore Go.Proofs.YthlbcgaegaoanaaDoor.Kinds Go.Proofs.YthlbcgaegaoanaaDoor.Utf Go.Proofs.YthlbcgaegaoanaaDoor.Chk Go.Proofs.YthlbcgaegaoanaaDoor.Rdr
set_option linter.unusedVariables false
set_option linter.unusedSimpArgs false
def askQ (a : AskV) : Bool := qosB a.qos
def codeQ (c : Int) : Bool := qosB c || c == 128
def qualB (p : Pkt) : Bool := qosB p.will.qos && qosB p.msg.qos && p.asks.all askQ && p.codes.all codeQ
set_option maxRecDepth 100000 in
set_option maxHeartbeats 4000000 in
theorem qualities_any (p : Pkt) (cs : List Value) (w : World) (h : kPkt.K w p cs) (ha : p.asks.length ≤ 1099511627776) (hcl : p.codes.length ≤ 1099511627776) :
    Calls Tryd.prog 42 #[.agg cs.toArray] w fun e w' => e = .returned (.bool (qualB p)) ∧ Below w.heap.size w w' := by
  obtain ⟨Aw, nw, Ap, np, Am, nm, Aa, na, Ac, nc, Af, nf, hcs, _, _, _, hA, hC, _⟩ := pkt_K h
  obtain ⟨X, hX⟩ : ∃ X : World, X = w.alloc (.cells cs.toArray 43) := ⟨_, rfl⟩
  have hBX : Below w.heap.size w X := by rw [hX]; exact below_alloc (Below.refl _ _) _
  have hg0 : X.heap[w.heap.size]? = some (.cells cs.toArray 43 (0, 0)) := by rw [hX]; exact heap_alloc_new _ _
  have gx0 := blk_lt hg0
  rw [hcs] at hg0
  have b8 : X.cell? ⟨w.heap.size, 8, none⟩ = some (.int .i64 p.will.qos) := blk_cell hg0 8
  have b19 : X.cell? ⟨w.heap.size, 19, none⟩ = some (.int .i64 p.msg.qos) := blk_cell hg0 19
  have b22 : X.cell? ⟨w.heap.size, 22, none⟩ = some (.slice Aa p.asks.length na) := blk_cell hg0 22
  have HB23 := Aside0.mk (fun (w1 : World) (hb : Below X.heap.size X w1) => (show w1.cell? ⟨w.heap.size, 23, none⟩ = some (.slice Ac p.codes.length nc) from blk_cell ((hb.block _ gx0).trans hg0) 23))
  obtain ⟨c1, hc1⟩ : ∃ c, qosB p.will.qos = c := ⟨_, rfl⟩
  obtain ⟨c2, hc2⟩ : ∃ c, qosB p.msg.qos = c := ⟨_, rfl⟩
  obtain ⟨c3, hc3⟩ : ∃ c, p.asks.all askQ = c := ⟨_, rfl⟩
  obtain ⟨c4, hc4⟩ : ∃ c, p.codes.all codeQ = c := ⟨_, rfl⟩
  have HE := Aside0.mk (show qualB p = (c1 && c2 && c3 && c4) by rw [← hc1, ← hc2, ← hc3, ← hc4]; rfl)
  have H1 := Aside0.mk hc1
  have H2 := Aside0.mk hc2
  have H3 := Aside0.mk (show (p.asks.drop 0).all askQ = c3 from hc3)
  have H4 := Aside0.mk (show (p.codes.drop 0).all codeQ = c4 from hc4)
  have HA := Aside0.mk (Kd.C_below hA.2 hBX)
  have HC := Aside0.mk (Kd.C_below hC.2 hBX)
  have HBX := Aside0.mk hBX
  have HX := Aside0.mk hX
  clear h hcs hX hBX hg0 hA hC hc1 hc2 hc3 hc4 gx0
  go_enter Tryd.func42, Tryd.ntmps42
  go_upto_region 1 with fail
  refine wp_wldF (w2 := X) (by rw [HX.out]) ?_
  clear HX
  cases c1 with
  | false =>
    go_wp2_with (go_at_call 63; (with_reducible refine (isQoS_any p.will.qos _).mono ?_); rintro e w1 ⟨rfl, rfl⟩; rw [H1.out])
    go_ret
    exact ⟨by rw [HE.out]; rfl, HBX.out⟩
  | true =>
  cases c2 with
  | false =>
    go_wp2_with (first
      | (go_at_call 63; (with_reducible refine (isQoS_any p.will.qos _).mono ?_); rintro e w1 ⟨rfl, rfl⟩; rw [H1.out])
      | (go_at_call 63; (with_reducible refine (isQoS_any p.msg.qos _).mono ?_); rintro e w1 ⟨rfl, rfl⟩; rw [H2.out]))
    go_ret
    exact ⟨by rw [HE.out]; rfl, HBX.out⟩
  | true =>
  go_wp2_with (first
    | (go_at_call 63; (with_reducible refine (isQoS_any p.will.qos _).mono ?_); rintro e w1 ⟨rfl, rfl⟩; rw [H1.out])
    | (go_at_call 63; (with_reducible refine (isQoS_any p.msg.qos _).mono ?_); rintro e w1 ⟨rfl, rfl⟩; rw [H2.out]))
  clear b8 b19 b22
  go_loopg [22] (p.asks.length + 1) (fun q v22 wr => ∃ i : Nat, v22 = .int .i64 (i : Int) ∧ Aside0 ((p.asks.drop i).all askQ = c3) ∧ p.asks.length < i + q ∧ i ≤ p.asks.length ∧ Aside0 (Below X.heap.size X wr))
  case atStart => exact ⟨0, by simp, H3, by omega, by omega, ⟨Below.refl _ _⟩⟩
  case round =>
    obtain ⟨i, rfl, HG, hiq, hil, HB⟩ := hrel
    clear H3
    cases gk with
    | zero => omega
    | succ q =>
    by_cases hi : i < p.asks.length
    · have hC := Kd.C_below HA.out HB.out
      obtain ⟨ad, hA, hc1, hc2⟩ := ask_at hC i hi hi
      have hc2 : wr.cell? { block := (ad.add (i * 2)).block, off := (ad.add (i * 2)).off + 1 } = some (.int .i64 p.asks[i].qos) := by
        have h3 := cell_nospot hc2
        rw [Addr.add_off1] at h3
        exact h3
      subst hA
      have hG := HG.out
      rw [List.drop_eq_getElem_cons hi, List.all_cons] at hG
      generalize p.asks[i] = a at *
      obtain ⟨fl, qs⟩ := a
      have hlt : ((i : Int) < (p.asks.length : Int)) := by omega
      obtain ⟨c5, hc5⟩ : ∃ c, qosB qs = c := ⟨_, rfl⟩
      rw [show askQ ⟨fl, qs⟩ = c5 from hc5] at hG
      clear HG hC
      have HG := Aside0.mk hG
      clear hG
      cases c5 with
      | false =>
        go_wp2_with (go_at_call 63; (with_reducible refine (isQoS_any qs _).mono ?_); rintro e w1 ⟨rfl, rfl⟩; rw [hc5])
        go_ret
        exact ⟨by rw [HE.out, ← HG.out]; simp, HBX.out.trans ((HB.out.mono HBX.out.size).alloc (Nat.le_trans HBX.out.size HB.out.size) _)⟩
      | true =>
        go_wp2_with (go_at_call 63; (with_reducible refine (isQoS_any qs _).mono ?_); rintro e w1 ⟨rfl, rfl⟩; rw [hc5])
        go_roundg q
        case measure => omega
        case rel => exact ⟨i + 1, by simp, ⟨by have := HG.out; simpa using this⟩, by omega, by omega, ⟨HB.out.alloc HB.out.size _⟩⟩
    · obtain rfl : i = p.asks.length := by omega
      have hlt : decide ((p.asks.length : Int) < (p.asks.length : Int)) = false := by simp
      have hG := HG.out
      rw [List.drop_length] at hG
      subst hG
      have b23 := HB23.out wr HB.out
      have HC2 := Aside0.mk (Kd.C_below HC.out HB.out)
      clear HC HB23
      go_wp2
      go_loopg [34] (p.codes.length + 1) (fun q v34 w3 => ∃ i : Nat, v34 = .int .i64 (i : Int) ∧ Aside0 ((p.codes.drop i).all codeQ = c4) ∧ p.codes.length < i + q ∧ i ≤ p.codes.length ∧ w3 = wr)
      case atStart => exact ⟨0, by simp, H4, by omega, by omega, rfl⟩
      case round =>
        obtain ⟨i, rfl, HG, hiq, hil, rfl⟩ := hrel
        clear H4
        cases gk with
        | zero => omega
        | succ q =>
        by_cases hi : i < p.codes.length
        · obtain ⟨ad, hA, hcell⟩ := Kd.at_int HC2.out (i : Int) (by omega) (by omega)
          subst hA
          rw [Int.toNat_natCast] at hcell
          have hG := HG.out
          have hx : rd p.codes (i : Int) = p.codes[i] := by unfold rd; rw [Int.toNat_natCast, List.getD_eq_getElem?_getD, List.getElem?_eq_getElem hi]; rfl
          rw [hx] at hcell
          rw [List.drop_eq_getElem_cons hi, List.all_cons] at hG
          generalize p.codes[i] = x at *
          have hlt : ((i : Int) < (p.codes.length : Int)) := by omega
          obtain ⟨c5, hc5⟩ : ∃ c, qosB x = c := ⟨_, rfl⟩
          rw [show codeQ x = (c5 || x == 128) by unfold codeQ; rw [hc5]] at hG
          clear HG hx
          have HG := Aside0.mk hG
          clear hG
          cases c5 with
          | true =>
            go_wp2_with (go_at_call 63; (with_reducible refine (isQoS_any x _).mono ?_); rintro e w1 ⟨rfl, rfl⟩; rw [hc5])
            go_roundg q
            case measure => omega
            case rel => exact ⟨i + 1, by simp, ⟨by have := HG.out; simpa using this⟩, by omega, by omega, rfl⟩
          | false =>
            by_cases hx : x = 128
            · subst hx
              go_wp2_with (go_at_call 63; (with_reducible refine (isQoS_any 128 _).mono ?_); rintro e w1 ⟨rfl, rfl⟩; rw [hc5])
              go_roundg q
              case measure => omega
              case rel => exact ⟨i + 1, by simp, ⟨by have := HG.out; simpa using this⟩, by omega, by omega, rfl⟩
            · have hxb : (x != 128) = true := by simp [hx]
              have hxc : (x == 128) = false := by simp [hx]
              rw [hxc] at HG
              go_wp2_with (go_at_call 63; (with_reducible refine (isQoS_any x _).mono ?_); rintro e w1 ⟨rfl, rfl⟩; rw [hc5])
              go_ret
              exact ⟨by rw [HE.out, ← HG.out]; simp, HBX.out.trans (HB.out.mono HBX.out.size)⟩
        · obtain rfl : i = p.codes.length := by omega
          have hlt : decide ((p.codes.length : Int) < (p.codes.length : Int)) = false := by simp
          have hG := HG.out
          rw [List.drop_length] at hG
          subst hG
          go_wp2
          go_ret
          exact ⟨by rw [HE.out]; rfl, HBX.out.trans (HB.out.mono HBX.out.size)⟩
end Go.Proofs.YthlbcgaegaoanaaDoor.Cr

namespace Go.Proofs.YthlbcgaegaoanaaDoor.Cr
open Go Go.RowKit Go.Proofs.YthlbcgaegaoanaaDoorW.PrintWords Go.Proofs.YthlbcgaegaoanaaDoorW.PrintLast Go.Proofs.YthlbcgaegaoanaaDoorW.PrintMore Go.Proofs.YthlbcgaegaoanaaDoor.Kinds Go.Proofs.YthlbcgaegaoanaaDoor.Utf Go.Proofs.YthlbcgaegaoanaaDoor.Chk Go.Proofs.YthlbcgaegaoanaaDoor.Rdr
set_option linter.unusedVariables false
set_option linter.unusedSimpArgs false
def partL (t : Bool) (l n : Int) : Int := if t then wrap64 (n + wrap64 (2 + l)) else n
theorem part_any (t : Bool) (l n : Int) (N : Nat) (w : World) (hN : w.heap[N]? = some (.cells #[.int .i64 n] 3 (0, 0))) :
    Calls Tryd.prog 64 #[.bool t, .int .i64 l, .pointer (some ⟨N, 0, none⟩)] w fun e w' => e = .returned (.tuple #[]) ∧ w'.heap[N]? = some (.cells #[.int .i64 (partL t l n)] 3 (0, 0)) ∧ Below N w w' := by
  have hc : w.cell? ⟨N, 0, none⟩ = some (.int .i64 n) := blk_cell hN 0
  have hfz : w.frozen? ⟨N, 0, none⟩ = false := blk_frozen hN 0
  have HN := Aside0.mk hN
  clear hN
  go_enter Tryd.func64, Tryd.ntmps64
  go_wp2
  · rename_i ht
    subst ht
    exact Great.bodyPost_end0 rfl rfl ⟨rfl, blk_set HN.out 0 _, (Below.refl _ _).setCell (p := ⟨N, 0, none⟩) (Nat.le_refl _) _⟩
  · rename_i ht
    subst ht
    exact Great.bodyPost_end0 rfl rfl ⟨rfl, HN.out, Below.refl _ _⟩
def lenC (p : Pkt) : Int := partL p.hasPass p.pass.length (partL p.hasUser p.user.size (partL p.hasWill p.will.payload.length (partL p.hasWill p.will.topic.size (partL true p.client.size 10))))
def lenA (n : Int) : List AskV → Int
  | [] => n
  | a :: l => lenA (partL true (wrap64 (a.filter.size + 1)) n) l
def lenF (n : Int) : List ByteArray → Int
  | [] => n
  | f :: l => lenF (partL true f.size n) l
def len1 (p : Pkt) : Int := if decide (bits .and .i64 (pHas p) 1 > 0) then lenC p else 0
def len2 (p : Pkt) : Int := if decide (bits .and .i64 (pHas p) 2 > 0) then 2 else len1 p
def len4 (p : Pkt) : Int := if decide (bits .and .i64 (pHas p) 4 > 0) then partL true p.msg.topic.size p.msg.payload.length else len2 p
def lenP (p : Pkt) : Int := wrap64 (lenF (lenA (partL (numB p) 0 (len4 p)) p.asks) p.filters + p.codes.length)
def NIs (N : Nat) (X w : World) (n : Int) : Prop := w.heap[N]? = some (.cells #[.int .i64 n] 3 (0, 0)) ∧ Below X.heap.size X w
theorem NIs.step {N : Nat} {X w w1 : World} {n m : Int} (hN : N = X.heap.size) (h : NIs N X w n) (hn : w1.heap[N]? = some (.cells #[.int .i64 m] 3 (0, 0))) (hb : Below N w w1) : NIs N X w1 m :=
  ⟨hn, h.2.trans (by rw [← hN]; exact hb)⟩
theorem NIs.set {N : Nat} {X w : World} {n : Int} (hN : N = X.heap.size) (h : NIs N X w n) (m : Int) : NIs N X (w.setCell ⟨N, 0, none⟩ (.int .i64 m)) m :=
  ⟨blk_set h.1 0 _, h.2.setCell (by rw [hN]; exact Nat.le_refl _) _⟩
set_option maxRecDepth 100000 in
set_option maxHeartbeats 4000000 in
theorem length_any {w : World} (hg : Gl w) (p : Pkt) (cs : List Value) (h : kPkt.K w p cs) (h0 : 1 ≤ p.kind) (h1 : p.kind ≤ 14) (ha : p.asks.length ≤ 1099511627776) (hfl : p.filters.length ≤ 1099511627776) :
    Calls Tryd.prog 44 #[.agg cs.toArray] w fun e w' => e = .returned (.int .i64 (lenP p)) ∧ Below w.heap.size w w' := by
  obtain ⟨Aw, nw, Ap, np, Am, nm, Aa, na, Ac, nc, Af, nf, hcs, _, _, _, hA, hC, hF⟩ := pkt_K h
  have HSZ := Aside0.mk (show (Tryd.prog.info? 43).map (·.size) = some (pktCells p (.slice Aw p.will.payload.length nw) (.slice Ap p.pass.length np) (.slice Am p.msg.payload.length nm) (.slice Aa p.asks.length na) (.slice Ac p.codes.length nc) (.slice Af p.filters.length nf)).toArray.size from pktSize)
  have x := hg.has p.kind.toNat (by omega)
  have x2 : w.cell? ⟨1, p.kind.toNat, none⟩ = some (.int .i64 (pHas p)) := x
  obtain ⟨X, hX⟩ : ∃ X : World, X = w.alloc (.cells cs.toArray 43) := ⟨_, rfl⟩
  have hBX : Below w.heap.size w X := by rw [hX]; exact below_alloc (Below.refl _ _) _
  have hg0 : X.heap[w.heap.size]? = some (.cells cs.toArray 43 (0, 0)) := by rw [hX]; exact heap_alloc_new _ _
  have gx0 := blk_lt hg0
  rw [hcs] at hg0
  have HBX := Aside0.mk hBX
  have HX := Aside0.mk hX
  have hkx := kPkt.K_below hBX h
  rw [hcs] at hkx
  have HKX := Aside0.mk hkx
  clear hkx
  have HGX := Aside0.mk (hg.below hBX hg.sz hBX.size)
  have HG0 := Aside0.mk hg0
  have HA := Aside0.mk (Kd.C_below hA.2 hBX)
  have HF := Aside0.mk (Kd.C_below hF.2 hBX)
  clear hg x x2 hX hBX hg0 hA hC hF h hcs
  go_enter Tryd.func44, Tryd.ntmps44
  go_upto_region 1 with fail
  refine wp_wldF (w2 := X) (by rw [HX.out]) ?_
  go_upto_region 3 with fail
  obtain ⟨Y, hY⟩ : ∃ Y : World, Y = X.alloc (.cells #[.int .i64 0] 3) := ⟨_, rfl⟩
  obtain ⟨N, hN⟩ : ∃ N, N = X.heap.size := ⟨_, rfl⟩
  rw [← hY, ← hN]
  have hN0 : NIs N X Y 0 := ⟨by rw [hY, hN]; exact heap_alloc_new _ _, by rw [hY]; exact below_alloc (Below.refl _ _) _⟩
  have HGY := Aside0.mk (HGX.out.below hN0.2 (Nat.le_trans HBX.out.size (Nat.le_refl _) |> fun _ => HGX.out.sz) hN0.2.size)
  have HNX := Aside0.mk hN
  -- what stands at a world that X reaches
  have HW0 := Aside0.mk (fun (w1 : World) (hb : Below X.heap.size X w1) => (hb.block _ gx0).trans HG0.out)
  have x2 : Y.cell? ⟨1, p.kind.toNat, none⟩ = some (.int .i64 (pHas p)) := HGY.out.has p.kind.toNat (by omega)
  have q0 : (0 : Int) ≤ p.kind := by omega
  have q1 : p.kind < 15 := by omega
  have b0 : Y.cell? ⟨w.heap.size, 0, none⟩ = some (.int .i64 p.kind) := blk_cell (HW0.out Y hN0.2) 0
  obtain ⟨hh, hhh⟩ : ∃ hh, hh = pHas p := ⟨_, rfl⟩
  rw [← hhh] at x2
  have HN0 := Aside0.mk hN0
  have HHH := Aside0.mk hhh
  clear hN0 hY hN hhh
  go_upto_region 4 with fail
  clear b0 x2
  go_upto_if 17 with fail
  go_cut [] (fun wx => NIs N X wx (len1 p))
  case first =>
    as_aux_lemma =>
      have HNC : Aside0 (Y.cell? ⟨N, 0, none⟩ = some (.int .i64 0)) := ⟨blk_cell HN0.out.1 0⟩
      have nc0 := HNC.out
      have nf0 : Y.frozen? ⟨N, 0, none⟩ = false := blk_frozen HN0.out.1 0
      by_cases hb1 : 0 < bits .and .i64 hh 1
      · go_upto_region 6 with fail
        obtain ⟨Z, hZ⟩ : ∃ Z : World, Z = Y.setCell ⟨N, 0, none⟩ (.int .i64 10) := ⟨_, rfl⟩
        rw [← hZ]
        have hz := NIs.set HNX.out HN0.out 10
        rw [← hZ] at hz
        clear nc0 nf0 hZ
        have M0 := Aside0.mk hz
        have L0 := Aside0.mk hz.1
        have b4 : Z.cell? ⟨w.heap.size, 4, none⟩ = some (.string p.client) := blk_cell (HW0.out Z hz.2) 4
        clear hz
        go_wp2_with (first
          | (go_at_call 64; (with_reducible refine (part_any true p.client.size 10 N _ L0.out).mono ?_); rintro e w1 ⟨rfl, hn, hb⟩; have hni := NIs.step HNX.out M0.out hn hb; have M1 := Aside0.mk hni; have L1 := Aside0.mk hni.1; clear b4; have b5 : w1.cell? ⟨w.heap.size, 5, none⟩ = some (.bool p.hasWill) := blk_cell (HW0.out w1 hni.2) 5; have b6 : w1.cell? ⟨w.heap.size, 6, none⟩ = some (.string p.will.topic) := blk_cell (HW0.out w1 hni.2) 6; clear hni hn hb)
          | (go_at_call 64; (with_reducible refine (part_any p.hasWill p.will.topic.size (partL true p.client.size 10) N _ L1.out).mono ?_); rintro e w2 ⟨rfl, hn, hb⟩; have hni := NIs.step HNX.out M1.out hn hb; have M2 := Aside0.mk hni; have L2 := Aside0.mk hni.1; clear b5; clear b6; have b5 : w2.cell? ⟨w.heap.size, 5, none⟩ = some (.bool p.hasWill) := blk_cell (HW0.out w2 hni.2) 5; have b7 : w2.cell? ⟨w.heap.size, 7, none⟩ = some (.slice Aw p.will.payload.length nw) := blk_cell (HW0.out w2 hni.2) 7; clear hni hn hb)
          | (go_at_call 64; (with_reducible refine (part_any p.hasWill p.will.payload.length (partL p.hasWill p.will.topic.size (partL true p.client.size 10)) N _ L2.out).mono ?_); rintro e w3 ⟨rfl, hn, hb⟩; have hni := NIs.step HNX.out M2.out hn hb; have M3 := Aside0.mk hni; have L3 := Aside0.mk hni.1; clear b5; clear b7; have b10 : w3.cell? ⟨w.heap.size, 10, none⟩ = some (.bool p.hasUser) := blk_cell (HW0.out w3 hni.2) 10; have b11 : w3.cell? ⟨w.heap.size, 11, none⟩ = some (.string p.user) := blk_cell (HW0.out w3 hni.2) 11; clear hni hn hb)
          | (go_at_call 64; (with_reducible refine (part_any p.hasUser p.user.size (partL p.hasWill p.will.payload.length (partL p.hasWill p.will.topic.size (partL true p.client.size 10))) N _ L3.out).mono ?_); rintro e w4 ⟨rfl, hn, hb⟩; have hni := NIs.step HNX.out M3.out hn hb; have M4 := Aside0.mk hni; have L4 := Aside0.mk hni.1; clear b10; clear b11; have b12 : w4.cell? ⟨w.heap.size, 12, none⟩ = some (.bool p.hasPass) := blk_cell (HW0.out w4 hni.2) 12; have b13 : w4.cell? ⟨w.heap.size, 13, none⟩ = some (.slice Ap p.pass.length np) := blk_cell (HW0.out w4 hni.2) 13; clear hni hn hb)
          | (go_at_call 64; (with_reducible refine (part_any p.hasPass p.pass.length (partL p.hasUser p.user.size (partL p.hasWill p.will.payload.length (partL p.hasWill p.will.topic.size (partL true p.client.size 10)))) N _ L4.out).mono ?_); rintro e w5 ⟨rfl, hn, hb⟩; have hni := NIs.step HNX.out M4.out hn hb; have M5 := Aside0.mk hni; have L5 := Aside0.mk hni.1; clear b12; clear b13; clear hni hn hb))
        go_meet
        case rel =>
          have e : len1 p = lenC p := by unfold len1; rw [← HHH.out, show decide (bits .and .i64 hh 1 > 0) = true from decide_eq_true hb1]; exact if_pos rfl
          rw [e]
          exact M5.out
      · go_wp2_with fail
        go_meet
        case rel =>
          have e : len1 p = 0 := by unfold len1; rw [← HHH.out, show decide (bits .and .i64 hh 1 > 0) = false from decide_eq_false (by omega)]; exact if_neg (by decide)
          rw [e]
          exact HN0.out
  case rest =>
    obtain ⟨wx1, hwx⟩ : ∃ wx : World, wx = wc := ⟨_, rfl⟩
    subst hwx
    have P1 := Aside0.mk hcut
    clear hcut HN0
    go_upto_if 55 with fail
    go_cut [] (fun wx => NIs N X wx (len2 p))
    case first =>
      as_aux_lemma =>
        have nc0 : wx1.cell? ⟨N, 0, none⟩ = some (.int .i64 (len1 p)) := blk_cell P1.out.1 0
        have nf0 : wx1.frozen? ⟨N, 0, none⟩ = false := blk_frozen P1.out.1 0
        by_cases hb1 : 0 < bits .and .i64 hh 2
        · go_wp2_with fail
          go_meet
          case rel =>
            have e : len2 p = 2 := by unfold len2; rw [← HHH.out, show decide (bits .and .i64 hh 2 > 0) = true from decide_eq_true hb1]; exact if_pos rfl
            rw [e]
            exact NIs.set HNX.out P1.out 2
        · go_wp2_with fail
          go_meet
          case rel =>
            have e : len2 p = len1 p := by unfold len2; rw [← HHH.out, show decide (bits .and .i64 hh 2 > 0) = false from decide_eq_false (by omega)]; exact if_neg (by decide)
            rw [e]
            exact P1.out
    case rest =>
      obtain ⟨wx2, hwx⟩ : ∃ wx : World, wx = wc := ⟨_, rfl⟩
      subst hwx
      have P2 := Aside0.mk hcut
      clear hcut P1
      go_upto_if 58 with fail
      go_cut [] (fun wx => NIs N X wx (len4 p))
      case first =>
        as_aux_lemma =>
          have nc0 : wx2.cell? ⟨N, 0, none⟩ = some (.int .i64 (len2 p)) := blk_cell P2.out.1 0
          have nf0 : wx2.frozen? ⟨N, 0, none⟩ = false := blk_frozen P2.out.1 0
          by_cases hb1 : 0 < bits .and .i64 hh 4
          · have b18 : wx2.cell? ⟨w.heap.size, 18, none⟩ = some (.slice Am p.msg.payload.length nm) := blk_cell (HW0.out wx2 P2.out.2) 18
            go_upto_region 15 with fail
            obtain ⟨Z, hZ⟩ : ∃ Z : World, Z = wx2.setCell ⟨N, 0, none⟩ (.int .i64 p.msg.payload.length) := ⟨_, rfl⟩
            rw [← hZ]
            have hz := NIs.set HNX.out P2.out p.msg.payload.length
            rw [← hZ] at hz
            clear nc0 nf0 hZ b18
            have M0 := Aside0.mk hz
            have L0 := Aside0.mk hz.1
            have b17 : Z.cell? ⟨w.heap.size, 17, none⟩ = some (.string p.msg.topic) := blk_cell (HW0.out Z hz.2) 17
            clear hz
            go_wp2_with (go_at_call 64; (with_reducible refine (part_any true p.msg.topic.size p.msg.payload.length N _ L0.out).mono ?_); rintro e w1 ⟨rfl, hn, hb⟩; have hni := NIs.step HNX.out M0.out hn hb; have M1 := Aside0.mk hni; clear hni hn hb)
            go_meet
            case rel =>
              have e : len4 p = partL true p.msg.topic.size p.msg.payload.length := by unfold len4; rw [← HHH.out, show decide (bits .and .i64 hh 4 > 0) = true from decide_eq_true hb1]; exact if_pos rfl
              rw [e]
              exact M1.out
          · go_wp2_with fail
            go_meet
            case rel =>
              have e : len4 p = len2 p := by unfold len4; rw [← HHH.out, show decide (bits .and .i64 hh 4 > 0) = false from decide_eq_false (by omega)]; exact if_neg (by decide)
              rw [e]
              exact P2.out
      case rest =>
        obtain ⟨wx3, hwx⟩ : ∃ wx : World, wx = wc := ⟨_, rfl⟩
        subst hwx
        have P3 := Aside0.mk hcut
        clear hcut P2
        have HP := Aside0.mk (HW0.out wx3 P3.out.2)
        have HG3 := Aside0.mk (HGX.out.below P3.out.2 HGX.out.sz P3.out.2.size)
        have HK3 := Aside0.mk (kPkt.K_below P3.out.2 HKX.out)
        have hBXw := HBX.out.size
        go_upto_region 17 with (first
          | (refine wpList_load_row rfl 43 _ rfl w.heap.size rfl 43 _ (0, 0) _ HP.out Tryd.underlying43 rfl HSZ.out ?_)
          | (go_at_call 43; (with_reducible refine (numbered_any HG3.out p _ HK3.out h0 h1).mono ?_); rintro e w1 ⟨rfl, hB⟩; have M1 := Aside0.mk (show NIs N X w1 (len4 p) from ⟨(hB.block _ (blk_lt P3.out.1)).trans P3.out.1, P3.out.2.trans (hB.mono P3.out.2.size)⟩); have L1 := Aside0.mk M1.out.1; clear hB)
          | (go_at_call 64; (with_reducible refine (part_any (numB p) 0 (len4 p) N _ L1.out).mono ?_); rintro e w2 ⟨rfl, hn, hb⟩; have hni := NIs.step HNX.out M1.out hn hb; have M2 := Aside0.mk hni; clear hni hn hb))
        have b22 : w2.cell? ⟨w.heap.size, 22, none⟩ = some (.slice Aa p.asks.length na) := blk_cell (HW0.out w2 M2.out.2) 22
        obtain ⟨n3, hn3⟩ : ∃ n3, n3 = partL (numB p) 0 (len4 p) := ⟨_, rfl⟩
        obtain ⟨T, hT⟩ : ∃ T, T = lenA n3 p.asks := ⟨_, rfl⟩
        obtain ⟨U, hU⟩ : ∃ U, U = lenF T p.filters := ⟨_, rfl⟩
        have HE := Aside0.mk (show lenP p = wrap64 (U + p.codes.length) by rw [hU, hT, hn3]; rfl)
        have HT := Aside0.mk (show lenA n3 (p.asks.drop 0) = T from hT.symm)
        have HU := Aside0.mk (show lenF T (p.filters.drop 0) = U from hU.symm)
        have M3 := Aside0.mk (show NIs N X w2 n3 by rw [hn3]; exact M2.out)
        clear hn3 hT hU M2 M1 L1 HP HG3 HK3 P3
        go_wp2
        go_loopg [76] (p.asks.length + 1) (fun q v76 wr => ∃ (i : Nat) (n : Int), v76 = .int .i64 (i : Int) ∧ Aside0 (lenA n (p.asks.drop i) = T) ∧ p.asks.length < i + q ∧ i ≤ p.asks.length ∧ Aside0 (NIs N X wr n))
        case atStart => exact ⟨0, n3, by simp, HT, by omega, by omega, M3⟩
        case round =>
          obtain ⟨i, n, rfl, HG, hiq, hil, HNI⟩ := hrel
          clear HT M3 b22
          cases gk with
          | zero => omega
          | succ q =>
          by_cases hi : i < p.asks.length
          · have hC := Kd.C_below HA.out HNI.out.2
            obtain ⟨ad, hA, hc1, hc2⟩ := ask_at hC i hi hi
            have hc2 : wr.cell? { block := (ad.add (i * 2)).block, off := (ad.add (i * 2)).off + 1 } = some (.int .i64 p.asks[i].qos) := by
              have h3 := cell_nospot hc2
              rw [Addr.add_off1] at h3
              exact h3
            subst hA
            have hG := HG.out
            rw [List.drop_eq_getElem_cons hi] at hG
            generalize p.asks[i] = a at *
            obtain ⟨fl, qs⟩ := a
            have hlt : ((i : Int) < (p.asks.length : Int)) := by omega
            clear HG hC
            have HG := Aside0.mk (show lenA (partL true (wrap64 (fl.size + 1)) n) (p.asks.drop (i + 1)) = T from hG)
            clear hG
            have HNA := Aside0.mk (fun o => (show (wr.alloc o).heap[N]? = some (.cells #[.int .i64 n] 3 (0, 0)) from (Below.heap_alloc _ _ _ (blk_lt HNI.out.1)).trans HNI.out.1))
            go_wp2_with (go_at_call 64; (with_reducible refine (part_any true (wrap64 (fl.size + 1)) n N _ (HNA.out _)).mono ?_); rintro e w4 ⟨rfl, hn, hb⟩; have M4 := Aside0.mk (show NIs N X w4 _ from ⟨hn, (HNI.out.2.alloc HNI.out.2.size _).trans (by rw [← HNX.out]; exact hb)⟩); clear hn hb)
            go_roundg q
            case measure => omega
            case rel => exact ⟨i + 1, _, by simp, HG, by omega, by omega, M4⟩
          · obtain rfl : i = p.asks.length := by omega
            have hlt : decide ((p.asks.length : Int) < (p.asks.length : Int)) = false := by simp
            have hG := HG.out
            rw [List.drop_length] at hG
            have hG2 : n = T := hG
            subst hG2
            have b24 : wr.cell? ⟨w.heap.size, 24, none⟩ = some (.slice Af p.filters.length nf) := blk_cell (HW0.out wr HNI.out.2) 24
            clear HG hG
            go_wp2
            go_loopg [90] (p.filters.length + 1) (fun q v90 w5 => ∃ (i : Nat) (m : Int), v90 = .int .i64 (i : Int) ∧ Aside0 (lenF m (p.filters.drop i) = U) ∧ p.filters.length < i + q ∧ i ≤ p.filters.length ∧ Aside0 (NIs N X w5 m))
            case atStart => exact ⟨0, n, by simp, HU, by omega, by omega, HNI⟩
            case round =>
              obtain ⟨i, m, rfl, HG, hiq, hil, HN5⟩ := hrel
              clear HU HNI b24
              cases gk with
              | zero => omega
              | succ q =>
              by_cases hi : i < p.filters.length
              · obtain ⟨ad, hA, hcell⟩ := Kd.at_string (Kd.C_below HF.out HN5.out.2) (i : Int) (by omega) (by omega)
                subst hA
                rw [Int.toNat_natCast] at hcell
                have hG := HG.out
                have hx : rdOf ByteArray.empty p.filters (i : Int) = p.filters[i] := by unfold rdOf; rw [Int.toNat_natCast, List.getD_eq_getElem?_getD, List.getElem?_eq_getElem hi]; rfl
                rw [hx] at hcell
                rw [List.drop_eq_getElem_cons hi] at hG
                generalize p.filters[i] = fl at *
                have hlt : ((i : Int) < (p.filters.length : Int)) := by omega
                clear HG hx
                have HG := Aside0.mk (show lenF (partL true fl.size m) (p.filters.drop (i + 1)) = U from hG)
                clear hG
                have L5 := Aside0.mk HN5.out.1
                go_wp2_with (go_at_call 64; (with_reducible refine (part_any true fl.size m N _ L5.out).mono ?_); rintro e w6 ⟨rfl, hn, hb⟩; have M6 := Aside0.mk (NIs.step HNX.out HN5.out hn hb); clear hn hb)
                go_roundg q
                case measure => omega
                case rel => exact ⟨i + 1, _, by simp, HG, by omega, by omega, M6⟩
              · obtain rfl : i = p.filters.length := by omega
                have hlt : decide ((p.filters.length : Int) < (p.filters.length : Int)) = false := by simp
                have hG := HG.out
                rw [List.drop_length] at hG
                have hG2 : m = U := hG
                subst hG2
                have b23 : wr.cell? ⟨w.heap.size, 23, none⟩ = some (.slice Ac p.codes.length nc) := blk_cell (HW0.out wr HN5.out.2) 23
                have bN : wr.cell? ⟨N, 0, none⟩ = some (.int .i64 m) := blk_cell HN5.out.1 0
                clear HG hG
                go_wp2
                go_ret
                exact ⟨by rw [HE.out]; rfl, HBX.out.trans (HN5.out.2.mono HBX.out.size)⟩
end Go.Proofs.YthlbcgaegaoanaaDoor.Cr

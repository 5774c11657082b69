/- wire's PutNumber, PutLength, PutText. No statement of the program. -/
import Derived.Test.YtjccmlmkcjmicaaDoorRdr
import Derived.Test.YtjccmlmkcjmicaaDoorCheck
namespace Go.Proofs.YtjccmlmkcjmicaaDoor.Rdr
open Go Go.RowKit Go.Proofs.YtjccmlmkcjmicaaDoorW.PrintWords Go.Proofs.YtjccmlmkcjmicaaDoorW.PrintLast Go.Proofs.YtjccmlmkcjmicaaDoorW.PrintMore Go.Proofs.YtjccmlmkcjmicaaDoor.Utf Go.Proofs.YtjccmlmkcjmicaaDoor.Chk
attribute [local go_sem] max2_int min2_int max_two min_two
set_option linter.unusedVariables false
set_option linter.unusedSimpArgs false

/-- a literal of bytes in a new block -/
theorem C_lit (W : World) (xs : List Int) (hm : xs.length ≤ 9223372036854775807) : (Kd.int .u8).C (W.alloc (.cells (nums .u8 xs).toArray 5)) (some ⟨W.heap.size, 0, none⟩) xs.length xs := by
  have h : (Kd.int .u8).R 5 (W.alloc (.cells (nums .u8 xs).toArray 5)) 0 (fun _ => True) (.slice (some ⟨W.heap.size, 0, none⟩) xs.length xs.length) xs :=
    Kd.R_of_own (own_lit W 0 5 .u8 xs (Nat.zero_le _) hm) (fun _ _ => trivial)
  exact (Kd.R_reads' h).2.2

set_option maxRecDepth 100000 in
theorem putNumber_any (l : List Int) (n : Int) (A : Option Addr) (c : Nat) (w : World) (hr : (Kd.int .u8).C w A l.length l) (hl : l.length ≤ 1099511627776) :
    Calls Tryd.prog 13 #[.slice A l.length c, .int .i64 n] w fun e w' => ∃ v, e = .returned v ∧ (Kd.int .u8).R 5 w' w.heap.size (fun _ => True) v (l ++ [n / 256 % 256, n % 256]) ∧ Below w.heap.size w w' := by
  have HR := Aside0.mk hr
  clear hr
  go_enter Tryd.func13, Tryd.ntmps13
  go_wp2_with (first
    | (go_at_call 31; refine (own_any l A c _ HR.out hl).mono ?_; rintro e w1 ⟨v, rfl, hR, hB⟩; have HO := Aside0.mk hR; have HB := Aside0.mk hB; have HLI := Aside0.mk (C_lit w1 [n / 256 % 256, n % 256] (by simp)); clear hR hB)
    | (at_builtin; refine Kd.R_append_rows (Kd.int .u8) (w0 := w) w.heap.size rfl (.tmp 6) (.tmp 12) 28 5 (.int .u8 0) 1 rfl Tryd.underlying28 infoU8 rfl (by decide) (by omega) v l [n / 256 % 256, n % 256] _ _ _ (fun _ => True) (fun _ => False) rfl rfl ?aO ?aR (fun _ _ h => h) (fun _ h => h.elim) ?aF ?aB ?aS ?aL ?_))
  case aO => exact Kd.R_alloc HO.out _
  case aR => exact HLI.out
  case aF => exact fun _ _ => trivial
  case aB => exact HB.out.alloc HB.out.size _
  case aS => have := HB.out.size; simp; omega
  case aL => simp; omega
  intro v1 w2 ho hb hg hat
  have HO2 := Aside0.mk ho
  have HB2 := Aside0.mk hb
  clear ho hb hg hat
  go_wp2
  go_ret
  exact ⟨v1, rfl, HO2.out, HB2.out⟩
set_option maxRecDepth 100000 in
theorem putText_ok (l : List Int) (t : ByteArray) (A : Option Addr) (c : Nat) (w : World) (hr : (Kd.int .u8).C w A l.length l) (hl : l.length ≤ 1099511627776) (ht : (chk t).2 = 0) (hts : t.size ≤ 65535) :
    Calls Tryd.prog 21 #[.slice A l.length c, .string t] w fun e w' => ∃ v, e = .returned (.tuple #[v, .int .i64 0]) ∧ (Kd.int .u8).R 5 w' w.heap.size (fun _ => True) v (l ++ [(t.size : Int) / 256 % 256, (t.size : Int) % 256] ++ bytesOf t) ∧ Below w.heap.size w w' := by
  have HR := Aside0.mk hr
  have HT := Aside0.mk ht
  have HTS := Aside0.mk hts
  clear hr ht hts
  go_enter Tryd.func21, Tryd.ntmps21
  go_wp2_with (first
    | (go_at_call 7; refine (check_any t _).mono ?_; rintro e w1 ⟨rfl, hB1⟩; rw [HT.out]; have HB1 := Aside0.mk hB1; clear hB1)
    | (go_at_call 13; refine (putNumber_any l (t.size : Int) A c _ (Kd.C_below HR.out HB1.out) hl).mono ?_; rintro e w2 ⟨v, rfl, hR, hB⟩; obtain ⟨pre, hpre⟩ : ∃ p, p = l ++ [(t.size : Int) / 256 % 256, (t.size : Int) % 256] := ⟨_, rfl⟩; rw [← hpre] at hR; have HP := Aside0.mk hpre; clear hpre; have HO := Aside0.mk hR; have HB := Aside0.mk hB; clear hR hB)
    | (at_builtin; refine print_append_str (w0 := w) w.heap.size rfl (.tmp 19) (.tmp 20) 28 9 5 rfl Tryd.underlying28 Tryd.underlying9 infoU8 v pre t rfl rfl ?aO ?aB ?aS ?aL ?_))
  case aO => exact own_weaken (Kd.own_of_R HO.out) HB1.out.size
  case aB => exact HB1.out.trans (HB.out.mono HB1.out.size)
  case aS => exact Nat.le_trans HB1.out.size HB.out.size
  case aL => have := HTS.out; rw [HP.out]; simp; omega
  intro v1 w3 ho hb hg
  have ho2 : w3.ownsRow w.heap.size 5 1 v1 (pre ++ bytesOf t).length (nums .u8 (pre ++ bytesOf t)) := by simpa using ho
  have HO2 := Aside0.mk ho2
  have HB2 := Aside0.mk hb
  clear ho hb hg ho2
  go_wp2
  go_ret2
  exact ⟨v1, rfl, by rw [← HP.out]; exact Kd.R_of_own HO2.out (fun _ _ => trivial), HB2.out⟩

def encL : Nat → Int → List Int
  | 0, n => [n % 256]
  | f + 1, n => if 128 ≤ n then bits .or .u8 (n % 256) 128 :: encL f (n / 128) else [n % 256]

/-- a length's bounds -/
def lenCl (n : Int) : Int := if n < 0 then 0 else if 268435455 < n then 268435455 else n
theorem lenCl_range (n : Int) : 0 ≤ lenCl n ∧ lenCl n ≤ 268435455 := by unfold lenCl; split <;> (try split) <;> omega

set_option maxRecDepth 100000 in
set_option maxHeartbeats 1000000 in
theorem putLength_any (l : List Int) (n : Int) (A : Option Addr) (c : Nat) (w : World) (hr : (Kd.int .u8).C w A l.length l) (hl : l.length ≤ 1099511627776) (all : List Int) (hall : all = l ++ encL 5 (lenCl n)) :
    Calls Tryd.prog 11 #[.slice A l.length c, .int .i64 n] w fun e w' => ∃ v, e = .returned v ∧ (Kd.int .u8).R 5 w' w.heap.size (fun _ => True) v all ∧ Below w.heap.size w w' := by
  have HR := Aside0.mk hr
  have HALL := Aside0.mk hall
  clear hr hall
  go_enter Tryd.func11, Tryd.ntmps11
  go_upto_region 1 with fail
  go_cut [1] (fun s1 wx => s1 = .int .i64 (lenCl n) ∧ wx = w)
  case first =>
    go_wp2_with fail
    all_goals
      go_meet
      case rel => exact ⟨by congr 1; unfold lenCl; split <;> (try split) <;> omega, rfl⟩
  case rest =>
    obtain ⟨rfl, rfl⟩ := hcut
    obtain ⟨m, hm⟩ : ∃ m, lenCl n = m := ⟨_, rfl⟩
    have hmr := lenCl_range n
    have hall := HALL.out
    clear HALL
    rw [hm] at hmr hall ⊢
    have HALL := Aside0.mk hall
    clear hm hall
    go_wp2_with (first | (go_at_call 31; refine (own_any l A c _ HR.out hl).mono ?_; rintro e w1 ⟨v, rfl, hR, hB⟩; have HO := Aside0.mk hR; have HB := Aside0.mk hB; clear hR hB))
    go_loopg [1, 5] 5 (fun q x vv wr => ∃ (pre : List Int) (y : Int) (v2 : Value), x = .int .i64 y ∧ vv = v2 ∧ Aside0 ((Kd.int .u8).R 5 wr wc.heap.size (fun _ => True) v2 pre) ∧ Aside0 (Below wc.heap.size wc wr) ∧ Aside0 (pre ++ encL q y = all) ∧ Aside0 (0 ≤ y ∧ y < 128 ^ q ∧ pre.length + q ≤ l.length + 5))
    case atStart => exact ⟨l, m, v, rfl, rfl, HO, HB, ⟨HALL.out.symm⟩, ⟨hmr.1, by have := hmr.2; omega, by omega⟩⟩
    case round =>
      obtain ⟨pre, y, v2, rfl, hv, HP, HB3, HE, HY⟩ := hrel
      replace hv := hv.symm
      subst hv
      clear HO HB
      by_cases hy : 128 ≤ y
      · have b0 : decide (128 ≤ y) = true := decide_eq_true hy
        cases gk with
        | zero => exact absurd HY.out (by omega)
        | succ q1 =>
          have HLI := Aside0.mk (C_lit wr [bits .or .u8 (y % 256) 128] (by simp))
          go_wp2_with (first
            | (at_builtin; refine Kd.R_append_rows (Kd.int .u8) (w0 := wc) wc.heap.size rfl (.tmp 13) (.tmp 17) 28 5 (.int .u8 0) 1 rfl Tryd.underlying28 infoU8 rfl (by decide) (by omega) v2 pre [bits .or .u8 (y % 256) 128] _ _ _ (fun _ => True) (fun _ => False) rfl rfl ?aO ?aR (fun _ _ h => h) (fun _ h => h.elim) ?aF ?aB ?aS ?aL ?_))
          case aO => exact Kd.R_alloc HP.out _
          case aR => exact HLI.out
          case aF => exact fun _ _ => trivial
          case aB => exact HB3.out.alloc HB3.out.size _
          case aS => have := HB3.out.size; simp; omega
          case aL => have := HY.out; simp; omega
          intro v1 w2 ho hb hg hat
          have HO2 := Aside0.mk ho
          have HB2 := Aside0.mk hb
          clear ho hb hg hat
          go_wp2
          go_roundg q1
          case measure => exact Nat.lt_succ_self _
          case rel =>
            have hE := HE.out
            simp only [encL, if_pos hy] at hE
            have hp := HY.out
            exact ⟨_, _, _, rfl, rfl, HO2, HB2, ⟨by rw [List.append_assoc]; exact hE⟩, ⟨by omega, by have := hp.2.1; rw [Int.pow_succ] at this; omega, by have := hp.2.2; simp; omega⟩⟩
      · have b0 : decide (128 ≤ y) = false := decide_eq_false hy
        have HLI := Aside0.mk (C_lit wr [y % 256] (by simp))
        go_wp2_with (first
          | (at_builtin; refine Kd.R_append_rows (Kd.int .u8) (w0 := wc) wc.heap.size rfl (.tmp 21) (.tmp 24) 28 5 (.int .u8 0) 1 rfl Tryd.underlying28 infoU8 rfl (by decide) (by omega) v2 pre [y % 256] _ _ _ (fun _ => True) (fun _ => False) rfl rfl ?bO ?bR (fun _ _ h => h) (fun _ h => h.elim) ?bF ?bB ?bS ?bL ?_))
        case bO => exact Kd.R_alloc HP.out _
        case bR => exact HLI.out
        case bB => exact HB3.out.alloc HB3.out.size _
        case bS => have := HB3.out.size; simp; omega
        case bL => have := HY.out; simp; omega
        intro v1 w2 ho hb hg hat
        have HO2 := Aside0.mk ho
        have HB2 := Aside0.mk hb
        clear ho hb hg hat
        go_wp2
        go_ret
        have hE := HE.out
        have hy2 : ¬ 128 ≤ y := by omega
        have e1 : encL gk y = [y % 256] := by
          cases gk with
          | zero => rfl
          | succ q1 => simp only [encL, if_neg hy2]
        rw [e1] at hE
        exact ⟨v1, rfl, by rw [← hE]; exact HO2.out, HB2.out⟩
end Go.Proofs.YtjccmlmkcjmicaaDoor.Rdr

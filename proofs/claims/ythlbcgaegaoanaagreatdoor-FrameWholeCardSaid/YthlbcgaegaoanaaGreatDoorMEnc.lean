/- wire's PutNumber, PutLength, PutText, PutData, in the codec's seat. No statement of the program. codec.Encode in plain Lean, and that what it writes is read again. No statement of the program. what a right packet is, in plain Lean. No statement of the program. what codec.Encode writes of a right packet is read again, in plain Lean. No statement of the program. packet.length of a right packet is how many bytes its fields have. No statement of the program. codec.Decode of what codec.Encode writes, in plain Lean. No statement of the program. -/
import Derived.Test.YthlbcgaegaoanaaGreatDoorMRdr
import Derived.Test.YthlbcgaegaoanaaGreatDoorMDec
namespace Go.Proofs.YthlbcgaegaoanaaGreatDoor.Rdr
open Go Go.RowKit Go.Proofs.YthlbcgaegaoanaaGreatDoorW.PrintWords Go.Proofs.YthlbcgaegaoanaaGreatDoorW.PrintLast Go.Proofs.YthlbcgaegaoanaaGreatDoorW.PrintMore Go.Proofs.YthlbcgaegaoanaaGreatDoor.Utf Go.Proofs.YthlbcgaegaoanaaGreatDoor.Chk
attribute [local go_sem] max2_int min2_int max_two min_two
set_option linter.unusedVariables false
set_option linter.unusedSimpArgs false
theorem C_lit8 (W : World) (xs : List Int) (hm : xs.length ≤ 9223372036854775807) : (Kd.int .u8).C (W.alloc (.cells (nums .u8 xs).toArray 5)) (some ⟨W.heap.size, 0, none⟩) xs.length xs := by
  have h : (Kd.int .u8).R 5 (W.alloc (.cells (nums .u8 xs).toArray 5)) 0 (fun _ => True) (.slice (some ⟨W.heap.size, 0, none⟩) xs.length xs.length) xs :=
    Kd.R_of_own (own_lit W 0 5 .u8 xs (Nat.zero_le _) hm) (fun _ _ => trivial)
  exact (Kd.R_reads' h).2.2
set_option maxRecDepth 100000 in
theorem putNumber_any (l : List Int) (n : Int) (A : Option Addr) (c : Nat) (w : World) (hr : (Kd.int .u8).C w A l.length l) (hl : l.length ≤ 1099511627776) :
    Calls Tryz.prog 112 #[.slice A l.length c, .int .i64 n] w fun e w' => ∃ v, e = .returned v ∧ (Kd.int .u8).R 5 w' w.heap.size (fun _ => True) v (l ++ [n / 256 % 256, n % 256]) ∧ Below w.heap.size w w' := by
  have HR := Aside0.mk hr
  clear hr
  go_enter Tryz.func112, Tryz.ntmps112
  go_wp2_with (first
    | (go_at_call 90; refine (own_any l A c _ HR.out hl).mono ?_; rintro e w1 ⟨v, rfl, hR, hB⟩; have HO := Aside0.mk hR; have HB := Aside0.mk hB; have HLI := Aside0.mk (C_lit8 w1 [n / 256 % 256, n % 256] (by simp)); clear hR hB)
    | (at_builtin; refine Kd.R_append_rows (Kd.int .u8) (w0 := w) w.heap.size rfl (.tmp 6) (.tmp 12) 22 5 (.int .u8 0) 1 rfl Tryz.underlying22 infoU8 rfl (by decide) (by omega) v l [n / 256 % 256, n % 256] _ _ _ (fun _ => True) (fun _ => False) rfl rfl ?aO ?aR (fun _ _ h => h) (fun _ h => h.elim) ?aF ?aB ?aS ?aL ?_))
  case aO => exact Kd.R_alloc HO.out _
  case aR => exact HLI.out
  case aF => exact fun _ _ => trivial
  case aB => exact HB.out.alloc HB.out.size _
  case aS => have := HB.out.size; simp; omega
  case aL => simp; omega
  intro v1 w2 ho hb hg hat
  have HO2 := Aside0.mk ho
  have HB2 := Aside0.mk hb
  clear ho hb hg hat
  go_wp2
  go_ret
  exact ⟨v1, rfl, HO2.out, HB2.out⟩
set_option maxRecDepth 100000 in
theorem putText_ok (l : List Int) (t : ByteArray) (A : Option Addr) (c : Nat) (w : World) (hr : (Kd.int .u8).C w A l.length l) (hl : l.length ≤ 1099511627776) (ht : (chk t).2 = 0) (hts : t.size ≤ 65535) :
    Calls Tryz.prog 138 #[.slice A l.length c, .string t] w fun e w' => ∃ v, e = .returned (.tuple #[v, .int .i64 0]) ∧ (Kd.int .u8).R 5 w' w.heap.size (fun _ => True) v (l ++ [(t.size : Int) / 256 % 256, (t.size : Int) % 256] ++ bytesOf t) ∧ Below w.heap.size w w' := by
  have HR := Aside0.mk hr
  have HT := Aside0.mk ht
  have HTS := Aside0.mk hts
  clear hr ht hts
  go_enter Tryz.func138, Tryz.ntmps138
  go_wp2_with (first
    | (go_at_call 100; refine (check_any t _).mono ?_; rintro e w1 ⟨rfl, hB1⟩; rw [HT.out]; have HB1 := Aside0.mk hB1; clear hB1)
    | (go_at_call 112; refine (putNumber_any l (t.size : Int) A c _ (Kd.C_below HR.out HB1.out) hl).mono ?_; rintro e w2 ⟨v, rfl, hR, hB⟩; obtain ⟨pre, hpre⟩ : ∃ p, p = l ++ [(t.size : Int) / 256 % 256, (t.size : Int) % 256] := ⟨_, rfl⟩; rw [← hpre] at hR; have HP := Aside0.mk hpre; clear hpre; have HO := Aside0.mk hR; have HB := Aside0.mk hB; clear hR hB)
    | (at_builtin; refine print_append_str (w0 := w) w.heap.size rfl (.tmp 19) (.tmp 20) 22 9 5 rfl Tryz.underlying22 Tryz.underlying9 infoU8 v pre t rfl rfl ?aO ?aB ?aS ?aL ?_))
  case aO => exact own_weaken (Kd.own_of_R HO.out) HB1.out.size
  case aB => exact HB1.out.trans (HB.out.mono HB1.out.size)
  case aS => exact Nat.le_trans HB1.out.size HB.out.size
  case aL => have := HTS.out; rw [HP.out]; simp; omega
  intro v1 w3 ho hb hg
  have ho2 : w3.ownsRow w.heap.size 5 1 v1 (pre ++ bytesOf t).length (nums .u8 (pre ++ bytesOf t)) := by simpa using ho
  have HO2 := Aside0.mk ho2
  have HB2 := Aside0.mk hb
  clear ho hb hg ho2
  go_wp2
  go_ret2
  exact ⟨v1, rfl, by rw [← HP.out]; exact Kd.R_of_own HO2.out (fun _ _ => trivial), HB2.out⟩
def encL : Nat → Int → List Int
  | 0, n => [n % 256]
  | f + 1, n => if 128 ≤ n then bits .or .u8 (n % 256) 128 :: encL f (n / 128) else [n % 256]
def lenCl (n : Int) : Int := if n < 0 then 0 else if 268435455 < n then 268435455 else n
theorem lenCl_range (n : Int) : 0 ≤ lenCl n ∧ lenCl n ≤ 268435455 := by unfold lenCl; split <;> (try split) <;> omega
set_option maxRecDepth 100000 in
set_option maxHeartbeats 1000000 in
theorem putLength_any (l : List Int) (n : Int) (A : Option Addr) (c : Nat) (w : World) (hr : (Kd.int .u8).C w A l.length l) (hl : l.length ≤ 1099511627776) (all : List Int) (hall : all = l ++ encL 5 (lenCl n)) :
    Calls Tryz.prog 75 #[.slice A l.length c, .int .i64 n] w fun e w' => ∃ v, e = .returned v ∧ (Kd.int .u8).R 5 w' w.heap.size (fun _ => True) v all ∧ Below w.heap.size w w' := by
  have HR := Aside0.mk hr
  have HALL := Aside0.mk hall
  clear hr hall
  go_enter Tryz.func75, Tryz.ntmps75
  go_upto_region 1 with fail
  go_cut [1] (fun s1 wx => s1 = .int .i64 (lenCl n) ∧ wx = w)
  case first =>
    go_wp2_with fail
    all_goals
      go_meet
      case rel => exact ⟨by congr 1; unfold lenCl; split <;> (try split) <;> omega, rfl⟩
  case rest =>
    obtain ⟨rfl, rfl⟩ := hcut
    obtain ⟨m, hm⟩ : ∃ m, lenCl n = m := ⟨_, rfl⟩
    have hmr := lenCl_range n
    have hall := HALL.out
    clear HALL
    rw [hm] at hmr hall ⊢
    have HALL := Aside0.mk hall
    clear hm hall
    go_wp2_with (first | (go_at_call 90; refine (own_any l A c _ HR.out hl).mono ?_; rintro e w1 ⟨v, rfl, hR, hB⟩; have HO := Aside0.mk hR; have HB := Aside0.mk hB; clear hR hB))
    go_loopg [1, 5] 5 (fun q x vv wr => ∃ (pre : List Int) (y : Int) (v2 : Value), x = .int .i64 y ∧ vv = v2 ∧ Aside0 ((Kd.int .u8).R 5 wr wc.heap.size (fun _ => True) v2 pre) ∧ Aside0 (Below wc.heap.size wc wr) ∧ Aside0 (pre ++ encL q y = all) ∧ Aside0 (0 ≤ y ∧ y < 128 ^ q ∧ pre.length + q ≤ l.length + 5))
    case atStart => exact ⟨l, m, v, rfl, rfl, HO, HB, ⟨HALL.out.symm⟩, ⟨hmr.1, by have := hmr.2; omega, by omega⟩⟩
    case round =>
      obtain ⟨pre, y, v2, rfl, hv, HP, HB3, HE, HY⟩ := hrel
      replace hv := hv.symm
      subst hv
      clear HO HB
      by_cases hy : 128 ≤ y
      · have b0 : decide (128 ≤ y) = true := decide_eq_true hy
        cases gk with
        | zero => exact absurd HY.out (by omega)
        | succ q1 =>
          have HLI := Aside0.mk (C_lit8 wr [bits .or .u8 (y % 256) 128] (by simp))
          go_wp2_with (first
            | (at_builtin; refine Kd.R_append_rows (Kd.int .u8) (w0 := wc) wc.heap.size rfl (.tmp 13) (.tmp 17) 22 5 (.int .u8 0) 1 rfl Tryz.underlying22 infoU8 rfl (by decide) (by omega) v2 pre [bits .or .u8 (y % 256) 128] _ _ _ (fun _ => True) (fun _ => False) rfl rfl ?aO ?aR (fun _ _ h => h) (fun _ h => h.elim) ?aF ?aB ?aS ?aL ?_))
          case aO => exact Kd.R_alloc HP.out _
          case aR => exact HLI.out
          case aF => exact fun _ _ => trivial
          case aB => exact HB3.out.alloc HB3.out.size _
          case aS => have := HB3.out.size; simp; omega
          case aL => have := HY.out; simp; omega
          intro v1 w2 ho hb hg hat
          have HO2 := Aside0.mk ho
          have HB2 := Aside0.mk hb
          clear ho hb hg hat
          go_wp2
          go_roundg q1
          case measure => exact Nat.lt_succ_self _
          case rel =>
            have hE := HE.out
            simp only [encL, if_pos hy] at hE
            have hp := HY.out
            exact ⟨_, _, _, rfl, rfl, HO2, HB2, ⟨by rw [List.append_assoc]; exact hE⟩, ⟨by omega, by have := hp.2.1; rw [Int.pow_succ] at this; omega, by have := hp.2.2; simp; omega⟩⟩
      · have b0 : decide (128 ≤ y) = false := decide_eq_false hy
        have HLI := Aside0.mk (C_lit8 wr [y % 256] (by simp))
        go_wp2_with (first
          | (at_builtin; refine Kd.R_append_rows (Kd.int .u8) (w0 := wc) wc.heap.size rfl (.tmp 21) (.tmp 24) 22 5 (.int .u8 0) 1 rfl Tryz.underlying22 infoU8 rfl (by decide) (by omega) v2 pre [y % 256] _ _ _ (fun _ => True) (fun _ => False) rfl rfl ?bO ?bR (fun _ _ h => h) (fun _ h => h.elim) ?bF ?bB ?bS ?bL ?_))
        case bO => exact Kd.R_alloc HP.out _
        case bR => exact HLI.out
        case bB => exact HB3.out.alloc HB3.out.size _
        case bS => have := HB3.out.size; simp; omega
        case bL => have := HY.out; simp; omega
        intro v1 w2 ho hb hg hat
        have HO2 := Aside0.mk ho
        have HB2 := Aside0.mk hb
        clear ho hb hg hat
        go_wp2
        go_ret
        have hE := HE.out
        have hy2 : ¬ 128 ≤ y := by omega
        have e1 : encL gk y = [y % 256] := by
          cases gk with
          | zero => rfl
          | succ q1 => simp only [encL, if_neg hy2]
        rw [e1] at hE
        exact ⟨v1, rfl, by rw [← hE]; exact HO2.out, HB2.out⟩
set_option maxRecDepth 100000 in
theorem putData_ok (l d : List Int) (A D : Option Addr) (c cd : Nat) (w : World) (hr : (Kd.int .u8).C w A l.length l) (hl : l.length ≤ 1099511627776) (hd : (Kd.int .u8).C w D d.length d) (hdl : d.length ≤ 65535) :
    Calls Tryz.prog 149 #[.slice A l.length c, .slice D d.length cd] w fun e w' => ∃ v, e = .returned (.tuple #[v, .int .i64 0]) ∧ (Kd.int .u8).R 5 w' w.heap.size (fun _ => True) v (l ++ [(d.length : Int) / 256 % 256, (d.length : Int) % 256] ++ d) ∧ Below w.heap.size w w' := by
  have HR := Aside0.mk hr
  have HD := Aside0.mk hd
  have HTS := Aside0.mk hdl
  have b0 : decide ((d.length : Int) > 65535) = false := decide_eq_false (by omega)
  clear hr hd hdl
  go_enter Tryz.func149, Tryz.ntmps149
  go_wp2_with (first
    | (go_at_call 112; refine (putNumber_any l (d.length : Int) A c _ HR.out hl).mono ?_; rintro e w2 ⟨v, rfl, hR, hB⟩; obtain ⟨pre, hpre⟩ : ∃ p, p = l ++ [(d.length : Int) / 256 % 256, (d.length : Int) % 256] := ⟨_, rfl⟩; rw [← hpre] at hR; have HP := Aside0.mk hpre; clear hpre; have HO := Aside0.mk hR; have HB := Aside0.mk hB; clear hR hB)
    | (at_builtin; refine Kd.R_append_rows (Kd.int .u8) (w0 := w) w.heap.size rfl (.tmp 12) (.tmp 13) 22 5 (.int .u8 0) 1 rfl Tryz.underlying22 infoU8 rfl (by decide) (by omega) v pre d _ _ _ (fun _ => True) (fun _ => False) rfl rfl ?aO ?aR (fun _ _ h => h) (fun _ h => h.elim) ?aF ?aB ?aS ?aL ?_))
  case aO => exact HO.out
  case aR => exact Kd.C_below HD.out HB.out
  case aF => exact fun _ _ => trivial
  case aB => exact HB.out
  case aS => exact HB.out.size
  case aL => have := HTS.out; rw [HP.out]; simp; omega
  intro v1 w3 ho hb hg hat
  have HO2 := Aside0.mk ho
  have HB2 := Aside0.mk hb
  clear ho hb hg hat
  go_wp2
  go_ret2
  exact ⟨v1, rfl, by rw [← HP.out]; exact HO2.out, HB2.out⟩
end Go.Proofs.YthlbcgaegaoanaaGreatDoor.Rdr

namespace Go.Proofs.YthlbcgaegaoanaaGreatDoor.Cr
open Go Go.RowKit Go.Proofs.YthlbcgaegaoanaaGreatDoorW.PrintWords Go.Proofs.YthlbcgaegaoanaaGreatDoorW.PrintLast Go.Proofs.YthlbcgaegaoanaaGreatDoorW.PrintMore Go.Proofs.YthlbcgaegaoanaaGreatDoor.Kinds Go.Proofs.YthlbcgaegaoanaaGreatDoor.Utf Go.Proofs.YthlbcgaegaoanaaGreatDoor.Chk Go.Proofs.YthlbcgaegaoanaaGreatDoor.Rdr
set_option linter.unusedVariables false
set_option linter.unusedSimpArgs false
/-! ### what is written -/
def twoE (n : Int) : List Int := [n / 256 % 256, n % 256]
def txtE (t : ByteArray) : List Int := twoE t.size ++ bytesOf t
def datE (d : List Int) : List Int := twoE d.length ++ d
def orIf (b : Bool) (m k : Int) : Int := if b then bits .or .u8 m k else m
def marksE (p : Pkt) : Int := orIf p.hasUser (orIf p.hasPass (orIf p.will.retain (orIf p.hasWill (orIf p.clean (p.will.qos * 8 % 256) 2) 4) 32) 64) 128
def protoE : ByteArray := ⟨#[77, 81, 84, 84]⟩
def connE (p : Pkt) : List Int :=
  txtE protoE ++ [p.level % 256, marksE p] ++ twoE p.keep ++ txtE p.client ++ (if p.hasWill then txtE p.will.topic ++ datE p.will.payload else []) ++ (if p.hasUser then txtE p.user else []) ++ (if p.hasPass then datE p.pass else [])
def asksE : List AskV → List Int
  | [] => []
  | a :: l => txtE a.filter ++ [a.qos % 256] ++ asksE l
def codesE : List Int → List Int
  | [] => []
  | c :: l => c % 256 :: codesE l
def filtE' : List ByteArray → List Int
  | [] => []
  | f :: l => txtE f ++ filtE' l
def restE (p : Pkt) : List Int := twoE p.id ++ asksE p.asks ++ codesE p.codes ++ filtE' p.filters
def fldE (p : Pkt) : List Int :=
  if p.kind = 1 then connE p
  else if p.kind = 2 then [if p.present then 1 else 0, p.code % 256]
  else if p.kind = 3 then txtE p.msg.topic ++ (if p.msg.qos > 0 then twoE p.id else []) ++ p.msg.payload
  else if p.kind = 12 ∨ p.kind = 13 ∨ p.kind = 14 then []
  else restE p
def lenE : Nat → Int → List Int
  | 0, n => [n % 256]
  | f + 1, n => if 128 ≤ n then (n % 128 + 128) :: lenE f (n / 128) else [n % 256]
def flagsE (p : Pkt) : Int := if p.kind = 3 then 2 * p.msg.qos + (if p.dup then 8 else 0) + (if p.msg.retain then 1 else 0) else flagL.getD p.kind.toNat 0
def encE (p : Pkt) : List Int := (p.kind * 16 + flagsE p) :: (lenE 5 (fldE p).length ++ fldE p)
/-! ### a suffix of what is read -/
structure Suf (l : List Int) (a : Int) (r : List Int) : Prop where
  lo : 0 ≤ a
  eq : l.drop a.toNat = r
  hi : a ≤ l.length
theorem Suf.len {l r : List Int} {a : Int} (h : Suf l a r) : (l.length : Int) = a + r.length := by
  have := congrArg List.length h.eq
  rw [List.length_drop] at this
  have := h.lo; have := h.hi
  omega
theorem Suf.all (l : List Int) : Suf l 0 l := ⟨Int.le_refl _, by simp, by omega⟩
theorem Suf.skip {l r : List Int} {a : Int} (x : List Int) (h : Suf l a (x ++ r)) : Suf l (a + x.length) r := by
  have hl := h.len
  rw [List.length_append] at hl
  refine ⟨by have := h.lo; omega, ?_, by omega⟩
  rw [show (a + (x.length : Int)).toNat = a.toNat + x.length by have := h.lo; omega, ← List.drop_drop, h.eq]
  simp
theorem Suf.byte {l r : List Int} {a x : Int} (h : Suf l a (x :: r)) : rByte l a none = ⟨x, a + 1, none⟩ ∧ Suf l (a + 1) r := by
  have hl := h.len
  rw [List.length_cons] at hl
  refine ⟨?_, by simpa using Suf.skip [x] h⟩
  unfold rByte
  rw [if_neg (by simp), if_pos (by omega)]
  have e : rd l a = x := by
    unfold rd
    rw [List.getD_eq_getElem?_getD]
    have := congrArg (fun q => q[0]?) h.eq
    simp at this
    rw [this]; rfl
  rw [e]
theorem two_num {n : Int} (h0 : 0 ≤ n) (h1 : n ≤ 65535) : joinG (twoE n) = n := by
  unfold twoE
  rw [join2 _ _ (by omega) (by omega) (by omega) (by omega)]; omega
theorem Suf.num {l r : List Int} {a n : Int} (h : Suf l a (twoE n ++ r)) (h0 : 0 ≤ n) (h1 : n ≤ 65535) : rNum l a none = ⟨n, a + 2, none⟩ ∧ Suf l (a + 2) r := by
  have hl := h.len
  have h2 : (twoE n).length = 2 := rfl
  rw [List.length_append, h2] at hl
  refine ⟨?_, by simpa [h2] using Suf.skip (twoE n) h⟩
  unfold rNum
  rw [if_neg (by simp), if_pos (by omega), h.eq, List.take_left' h2, two_num h0 h1]
theorem Suf.data {l r d : List Int} {a : Int} (h : Suf l a (datE d ++ r)) (h1 : d.length ≤ 65535) : rData l a none = ⟨d, a + (datE d).length, none⟩ ∧ Suf l (a + (datE d).length) r := by
  have hl := h.len
  have h2 : (twoE d.length).length = 2 := rfl
  have h3 : (datE d).length = 2 + d.length := by unfold datE; rw [List.length_append, h2]
  rw [List.length_append, h3] at hl
  have hs := Suf.skip (datE d) h
  refine ⟨?_, hs⟩
  have e1 : (l.drop a.toNat).take 2 = twoE d.length := by rw [h.eq]; unfold datE; rw [List.append_assoc, List.take_left' h2]
  have e2 : l.drop (a + 2).toNat = d ++ r := by
    have := (Suf.skip (l := l) (a := a) (r := d ++ r) (twoE d.length) (by have := h; unfold datE at this; rwa [List.append_assoc] at this)).eq
    simpa [h2] using this
  unfold rData
  rw [if_neg (by simp), if_pos (by omega), e1, two_num (by omega) (by omega), if_pos (by omega), e2, h3]
  simp
  omega
theorem bytesOf_len (t : ByteArray) : (bytesOf t).length = t.size := by simp [bytesOf]
theorem str_bytes (t : ByteArray) : strOfNums (bytesOf t) = t := by
  unfold strOfNums bytesOf
  apply ByteArray.ext
  simp [Function.comp_def]
theorem chk_size (t : ByteArray) (h : (chk t).2 = 0) : t.size ≤ 65535 := by
  unfold chk at h
  by_cases h1 : 65535 < t.size
  · rw [if_pos h1] at h; exact absurd h (by decide)
  · omega
theorem Suf.text {l r : List Int} {t : ByteArray} {a : Int} (h : Suf l a (txtE t ++ r)) (hc : (chk t).2 = 0) (h1 : t.size ≤ 65535) : rText l a none = ⟨t, a + (txtE t).length, none⟩ ∧ Suf l (a + (txtE t).length) r := by
  have hl := h.len
  have hb := bytesOf_len t
  have h2 : (twoE t.size).length = 2 := rfl
  have h3 : (txtE t).length = 2 + t.size := by unfold txtE; rw [List.length_append, h2, hb]
  rw [List.length_append, h3] at hl
  have hs := Suf.skip (txtE t) h
  refine ⟨?_, hs⟩
  have e1 : (l.drop a.toNat).take 2 = twoE t.size := by rw [h.eq]; unfold txtE; rw [List.append_assoc, List.take_left' h2]
  have e2 : l.drop (a + 2).toNat = bytesOf t ++ r := by
    have := (Suf.skip (l := l) (a := a) (r := bytesOf t ++ r) (twoE t.size) (by have := h; unfold txtE at this; rwa [List.append_assoc] at this)).eq
    simpa [h2] using this
  unfold rText
  rw [if_neg (by simp), if_pos (by omega), e1, two_num (by omega) (by omega), if_pos (by omega), e2, h3]
  rw [show (((t.size : Nat) : Int)).toNat = (bytesOf t).length by rw [hb]; omega, List.take_left' rfl, str_bytes, if_pos hc]
  simp
  omega
theorem Suf.end_ {l : List Int} {a : Int} (h : Suf l a []) : a = l.length ∧ rEnd l a none = none := by
  have hl := h.len
  refine ⟨by simpa using hl.symm, ?_⟩
  unfold rEnd
  rw [if_neg (by simp), if_neg (by simp at hl; omega)]
theorem Suf.rest {l r : List Int} {a : Int} (h : Suf l a r) : rRest l a none = ⟨r, l.length, none⟩ := by
  unfold rRest
  rw [if_neg (by simp), h.eq]
end Go.Proofs.YthlbcgaegaoanaaGreatDoor.Cr

namespace Go.Proofs.YthlbcgaegaoanaaGreatDoor.Cr
open Go Go.RowKit Go.Proofs.YthlbcgaegaoanaaGreatDoorW.PrintWords Go.Proofs.YthlbcgaegaoanaaGreatDoorW.PrintLast Go.Proofs.YthlbcgaegaoanaaGreatDoorW.PrintMore Go.Proofs.YthlbcgaegaoanaaGreatDoor.Kinds Go.Proofs.YthlbcgaegaoanaaGreatDoor.Utf Go.Proofs.YthlbcgaegaoanaaGreatDoor.Chk Go.Proofs.YthlbcgaegaoanaaGreatDoor.Rdr
set_option linter.unusedVariables false
set_option linter.unusedSimpArgs false
structure Right (p : Pkt) : Prop where
  k1 : 1 ≤ p.kind
  k14 : p.kind ≤ 14
  lev : 0 ≤ p.level ∧ p.level ≤ 255
  code : 0 ≤ p.code ∧ p.code ≤ 255
  keep : 0 ≤ p.keep ∧ p.keep ≤ 65535
  client : (chk p.client).2 = 0
  user : (chk p.user).2 = 0
  wtop : p.hasWill = true → (chk p.will.topic).2 = 0
  mtop : p.kind = 3 → (chk p.msg.topic).2 = 0
  fils : ∀ f ∈ p.filters, (chk f).2 = 0
  asks : ∀ a ∈ p.asks, (chk a.filter).2 = 0 ∧ 0 ≤ a.qos ∧ a.qos ≤ 2
  wqos : 0 ≤ p.will.qos ∧ p.will.qos ≤ 2
  mqos : 0 ≤ p.msg.qos ∧ p.msg.qos ≤ 2
  codes : ∀ c ∈ p.codes, 0 ≤ c ∧ c ≤ 255
  id : numB p = true → 1 ≤ p.id ∧ p.id ≤ 65535
  wlen : p.will.payload.length ≤ 65535
  plen : p.pass.length ≤ 65535
  len : lenP p ≤ 268435455
  nasks : p.kind = 8 → p.asks ≠ []
  ncodes : p.kind = 9 → p.codes ≠ []
  nfils : p.kind = 10 → p.filters ≠ []
  pu : p.hasPass = true → p.hasUser = true
  dq : p.dup = true → p.msg.qos ≠ 0
  pc : p.present = true → p.code = 0
  f1 : p.kind ≠ 1 → p.level = 0 ∧ p.clean = false ∧ p.keep = 0 ∧ p.client = ⟨#[]⟩ ∧ p.hasWill = false ∧ p.hasUser = false ∧ p.hasPass = false
  fw : p.hasWill = false → p.will = noMsg
  fu : p.hasUser = false → p.user = ⟨#[]⟩
  fp : p.hasPass = false → p.pass = []
  f2 : p.kind ≠ 2 → p.present = false ∧ p.code = 0
  f3 : p.kind ≠ 3 → p.dup = false ∧ p.msg = noMsg
  fid : numB p = false → p.id = 0
  f8 : p.kind ≠ 8 → p.asks = []
  f9 : p.kind ≠ 9 → p.codes = []
  f10 : p.kind ≠ 10 → p.filters = []
theorem kind_cases {k : Int} (h1 : 1 ≤ k) (h2 : k ≤ 14) : k = 1 ∨ k = 2 ∨ k = 3 ∨ k = 4 ∨ k = 5 ∨ k = 6 ∨ k = 7 ∨ k = 8 ∨ k = 9 ∨ k = 10 ∨ k = 11 ∨ k = 12 ∨ k = 13 ∨ k = 14 := by omega
theorem emp_of {s : ByteArray} (h : fEmp s = true) : s = ⟨#[]⟩ := by
  unfold fEmp at h
  have h2 : s.toList = [] := List.isEmpty_iff.1 h
  have h3 : s.data.toList = [] := by rw [← Lib.toList_data]; exact h2
  apply ByteArray.ext
  exact Array.toList_inj.1 (by simpa using h3)
theorem sm_of {m : Msg} (h : smB m = true) : m = noMsg := by
  obtain ⟨t, p, q, r⟩ := m
  unfold smB at h
  simp only [Bool.and_eq_true, beq_iff_eq] at h
  obtain ⟨⟨h1, h2, h3⟩, h4⟩ := h
  have e1 : t = ⟨#[]⟩ := emp_of (by unfold fEmp; rw [h1, Lib.toList_data]; rfl)
  have e4 : p = [] := by
    have := congrArg List.length h4
    rw [Lib.toList_data, Lib.toList_data] at this
    unfold strOfNums at this
    simp at this
    exact this
  rw [e1, e4, h2, h3]; rfl
theorem top_of {s : ByteArray} (h : topE s = 0) : (chk s).2 = 0 := by
  unfold topE ttextE at h
  by_cases h1 : s.toList.isEmpty = true
  · simp [h1] at h
  · by_cases h2 : (chk s).2 = 0
    · exact h2
    · simp [h1, h2] at h
theorem filt_of {s : ByteArray} (h : filtE s = 0) : (chk s).2 = 0 := by
  unfold filtE ttextE at h
  by_cases h1 : s.toList.isEmpty = true
  · simp [h1] at h
  · by_cases h2 : (chk s).2 = 0
    · exact h2
    · simp [h1, h2] at h
theorem has_bits : ∀ k : Int, 1 ≤ k → k ≤ 14 →
    ((bits .and .i64 (hasL.getD k.toNat 0) 1 == 0) = decide (k ≠ 1)) ∧ ((bits .and .i64 (hasL.getD k.toNat 0) 2 == 0) = decide (k ≠ 2)) ∧ ((bits .and .i64 (hasL.getD k.toNat 0) 4 == 0) = decide (k ≠ 3)) ∧ ((bits .and .i64 (hasL.getD k.toNat 0) 16 == 0) = decide (k ≠ 8)) ∧ ((bits .and .i64 (hasL.getD k.toNat 0) 32 == 0) = decide (k ≠ 9)) ∧ ((bits .and .i64 (hasL.getD k.toNat 0) 64 == 0) = decide (k ≠ 10)) ∧
    (decide (0 < bits .and .i64 (hasL.getD k.toNat 0) 4) = decide (k = 3)) ∧ (decide (0 < bits .and .i64 (hasL.getD k.toNat 0) 16) = decide (k = 8)) ∧ (decide (0 < bits .and .i64 (hasL.getD k.toNat 0) 32) = decide (k = 9)) ∧ (decide (0 < bits .and .i64 (hasL.getD k.toNat 0) 64) = decide (k = 10)) := by
  intro k h1 h2
  rcases kind_cases h1 h2 with h | h | h | h | h | h | h | h | h | h | h | h | h | h <;> subst h <;> decide
theorem pchk_right {p : Pkt} (h : pchk p = 0) : Right p := by
  unfold pchk at h
  by_cases hk : isKindB p.kind = true
  · by_cases h0 : ck0 p = true
    · simp [hk, h0] at h
    · by_cases h1 : ck1 p = true
      · simp [hk, h0, h1] at h
      · by_cases h2 : ck2 p = true
        · simp [hk, h0, h1, h2] at h
        · by_cases h3 : filtersB p = true
          · by_cases h4 : qualB p = true
            · by_cases h5 : ck5 p = true
              · simp [hk, h0, h1, h2, h3, h4, h5] at h
              · by_cases h6 : ck6 p = true
                · simp [hk, h0, h1, h2, h3, h4, h5, h6] at h
                · by_cases h7 : ck7 p = true
                  · simp [hk, h0, h1, h2, h3, h4, h5, h6, h7] at h
                  · by_cases h8 : ck8 p = true
                    · simp [hk, h0, h1, h2, h3, h4, h5, h6, h7, h8] at h
                    · clear h
                      have hk' : 1 ≤ p.kind ∧ p.kind ≤ 14 := by unfold isKindB at hk; simpa using hk
                      obtain ⟨e1, e2, e3, e8, e9, e10, g3, g8, g9, g10⟩ := has_bits p.kind hk'.1 hk'.2
                      unfold ck0 forB pHas at h0
                      rw [e1, e2, e3, e8, e9, e10] at h0
                      simp only [Bool.or_eq_true, Bool.and_eq_true, decide_eq_true_eq, not_or, not_and, Bool.not_eq_true', bne_iff_ne, ne_eq, Decidable.not_not, Bool.not_eq_true, Bool.not_eq_false, Int.not_lt] at h0
                      obtain ⟨⟨⟨⟨⟨⟨⟨⟨⟨⟨⟨⟨⟨⟨⟨a1, a2⟩, a3⟩, a4⟩, a5⟩, a6⟩, a7⟩, a8⟩, a9⟩, a10⟩, b1⟩, b2⟩, b3⟩, b4⟩, b5⟩, b6⟩ := h0
                      unfold ck1 textB at h1
                      simp only [Bool.or_eq_true, Bool.not_eq_true', not_or, Bool.not_eq_false, beq_iff_eq] at h1
                      unfold ck2 pHas at h2
                      rw [g3] at h2
                      simp only [Bool.or_eq_true, Bool.and_eq_true, decide_eq_true_eq, not_or, not_and, bne_iff_ne, ne_eq, Decidable.not_not] at h2
                      unfold filtersB at h3
                      simp only [Bool.and_eq_true, Bool.not_eq_true', List.any_eq_false, Bool.not_eq_true] at h3
                      unfold qualB at h4
                      simp only [Bool.and_eq_true, List.all_eq_true] at h4
                      unfold ck5 at h5
                      simp only [Bool.and_eq_true, Bool.or_eq_true, decide_eq_true_eq, not_and, not_or, Int.not_lt] at h5
                      unfold ck6 at h6
                      simp only [Bool.or_eq_true, decide_eq_true_eq, not_or, Int.not_lt] at h6
                      unfold ck7 pHas at h7
                      rw [g8, g9, g10] at h7
                      simp only [Bool.or_eq_true, Bool.and_eq_true, decide_eq_true_eq, not_or, not_and, beq_iff_eq] at h7
                      unfold ck8 at h8
                      simp only [Bool.or_eq_true, Bool.and_eq_true, Bool.not_eq_true', not_or, not_and, bne_iff_ne, beq_iff_eq, ne_eq, Decidable.not_not, Bool.not_eq_false] at h8
                      have q1 : ∀ q, qosB q = true → 0 ≤ q ∧ q ≤ 2 := fun q hq => by unfold qosB at hq; simpa using hq
                      have hL : ∀ {α : Type} (l : List α), ¬ 0 < l.length → l = [] := fun l hl => List.eq_nil_of_length_eq_zero (by omega)
                      exact {
                        k1 := hk'.1, k14 := hk'.2, lev := ⟨b1, b2⟩, code := ⟨b3, b4⟩, keep := ⟨b5, b6⟩, client := h1.1, user := h1.2
                        wtop := fun hw => top_of (h2.1 hw), mtop := fun hm => top_of (h2.2 hm)
                        fils := fun f hf => filt_of (by have := h3.1 f hf; unfold notF at this; simpa using this)
                        asks := fun a ha => ⟨filt_of (by have := h3.2 a ha; unfold notA notF at this; simpa using this), q1 _ (h4.1.2 a ha)⟩
                        wqos := q1 _ h4.1.1.1, mqos := q1 _ h4.1.1.2
                        codes := fun c hc => by
                          have := h4.2 c hc
                          unfold codeQ at this
                          simp only [Bool.or_eq_true, beq_iff_eq] at this
                          rcases this with e | e
                          · have := q1 _ e; omega
                          · omega
                        id := fun hn => h5 hn
                        wlen := by omega
                        plen := by omega
                        len := h6.2
                        nasks := fun hh e => h7.1.1 hh (by rw [e]; rfl)
                        ncodes := fun hh e => h7.1.2 hh (by rw [e]; rfl)
                        nfils := fun hh e => h7.2 hh (by rw [e]; rfl)
                        pu := h8.1.1, dq := h8.1.2, pc := h8.2
                        f1 := fun hh => by
                          have := a1 hh
                          exact ⟨this.1.1.1.1.1.1, this.1.1.1.1.1.2, this.1.1.1.1.2, emp_of this.1.1.1.2, this.1.1.2, this.1.2, this.2⟩
                        fw := fun hh => sm_of (a2 hh)
                        fu := fun hh => emp_of (a3 hh)
                        fp := fun hh => hL _ (a4 hh)
                        f2 := fun hh => a5 hh
                        f3 := fun hh => ⟨(a6 hh).1, sm_of (a6 hh).2⟩
                        fid := fun hh => a7 hh
                        f8 := fun hh => hL _ (a8 hh)
                        f9 := fun hh => hL _ (a9 hh)
                        f10 := fun hh => hL _ (a10 hh) }
            · simp [hk, h0, h1, h2, h3, h4] at h
          · simp [hk, h0, h1, h2, h3] at h
  · simp [hk] at h
end Go.Proofs.YthlbcgaegaoanaaGreatDoor.Cr

namespace Go.Proofs.YthlbcgaegaoanaaGreatDoor.Cr
open Go Go.RowKit Go.Proofs.YthlbcgaegaoanaaGreatDoorW.PrintWords Go.Proofs.YthlbcgaegaoanaaGreatDoorW.PrintLast Go.Proofs.YthlbcgaegaoanaaGreatDoorW.PrintMore Go.Proofs.YthlbcgaegaoanaaGreatDoor.Kinds Go.Proofs.YthlbcgaegaoanaaGreatDoor.Utf Go.Proofs.YthlbcgaegaoanaaGreatDoor.Chk Go.Proofs.YthlbcgaegaoanaaGreatDoor.Rdr
set_option linter.unusedVariables false
set_option linter.unusedSimpArgs false
theorem marks_dec : ∀ q : Int, (q = 0 ∨ q = 1 ∨ q = 2) → ∀ c wi re pa us : Bool,
    let m := orIf us (orIf pa (orIf re (orIf wi (orIf c (q * 8 % 256) 2) 4) 32) 64) 128
    (bits .and .u8 m 1 != 0) = false ∧ (bits .and .u8 m 24 == 24) = false ∧ (bits .and .u8 m 2 != 0) = c ∧ (bits .and .u8 m 4 != 0) = wi ∧ (bits .and .u8 m 64 != 0) = pa ∧ (bits .and .u8 m 128 != 0) = us ∧ wrap64 (bits .and .u8 m 24 / 8) = q ∧ (bits .and .u8 m 32 != 0) = re ∧ 0 ≤ m ∧ m ≤ 255 := by
  intro q hq
  rcases hq with rfl | rfl | rfl <;> decide +kernel
theorem q_cases {q : Int} (h : 0 ≤ q ∧ q ≤ 2) : q = 0 ∨ q = 1 ∨ q = 2 := by omega
theorem proto_chk : (chk protoE).2 = 0 := by kernel_rfl
theorem proto_l : protoE.toList = [77, 81, 84, 84] := by rw [Lib.toList_data]; rfl
theorem id0 {p : Pkt} (h : Right p) (h1 : p.kind = 1 ∨ p.kind = 2 ∨ p.kind = 12 ∨ p.kind = 13 ∨ p.kind = 14) : p.id = 0 := by
  refine h.fid ?_
  unfold numB pHas
  rcases h1 with e | e | e | e | e <;> rw [e] <;> rfl
theorem id1 {p : Pkt} (h : Right p) (h1 : p.kind = 4 ∨ p.kind = 5 ∨ p.kind = 6 ∨ p.kind = 7 ∨ p.kind = 8 ∨ p.kind = 9 ∨ p.kind = 10 ∨ p.kind = 11) : 1 ≤ p.id ∧ p.id ≤ 65535 := by
  refine h.id ?_
  unfold numB pHas
  rcases h1 with e | e | e | e | e | e | e | e <;> rw [e] <;> rfl
theorem id3 {p : Pkt} (h : Right p) (h1 : p.kind = 3) : (0 < p.msg.qos → 1 ≤ p.id ∧ p.id ≤ 65535) ∧ (p.msg.qos = 0 → p.id = 0) := by
  constructor
  · intro hq
    refine h.id ?_
    unfold numB pHas
    rw [h1, show (p.msg.qos != 0) = true from bne_iff_ne.2 (by omega)]; rfl
  · intro hq
    refine h.fid ?_
    unfold numB pHas
    rw [h1, hq]; rfl
theorem conn_back {p : Pkt} (h : Right p) (hk : p.kind = 1) : cConn (connE p) 0 none (pKind 1) = ⟨(connE p).length, none, p⟩ ∧ cBad (connE p) 0 none none = none := by
  obtain ⟨m, hm⟩ : ∃ m, m = marksE p := ⟨_, rfl⟩
  obtain ⟨l, hl⟩ : ∃ l, l = connE p := ⟨_, rfl⟩
  have hd := marks_dec p.will.qos (q_cases h.wqos) p.clean p.hasWill p.will.retain p.hasPass p.hasUser
  rw [show orIf p.hasUser (orIf p.hasPass (orIf p.will.retain (orIf p.hasWill (orIf p.clean (p.will.qos * 8 % 256) 2) 4) 32) 64) 128 = m from hm.symm] at hd
  obtain ⟨d1, d24, d2, d4, d64, d128, dq, d32, m0, m1⟩ := hd
  have s0 : Suf l 0 (txtE protoE ++ (p.level % 256 :: m :: (twoE p.keep ++ (txtE p.client ++ ((if p.hasWill then txtE p.will.topic ++ datE p.will.payload else []) ++ ((if p.hasUser then txtE p.user else []) ++ ((if p.hasPass then datE p.pass else []) ++ []))))))) := by
    have := Suf.all l
    rw [show l = txtE protoE ++ (p.level % 256 :: m :: (twoE p.keep ++ (txtE p.client ++ ((if p.hasWill then txtE p.will.topic ++ datE p.will.payload else []) ++ ((if p.hasUser then txtE p.user else []) ++ ((if p.hasPass then datE p.pass else []) ++ [])))))) by
      rw [hl, hm]; unfold connE; simp only [List.append_assoc, List.cons_append, List.nil_append, List.append_nil]] at this ⊢
    exact this
  rw [← hl]
  obtain ⟨r1, s1⟩ := s0.text proto_chk (by decide)
  obtain ⟨r2, s2⟩ := s1.byte
  obtain ⟨r3, s3⟩ := s2.byte
  obtain ⟨r4, s4⟩ := s3.num h.keep.1 h.keep.2
  obtain ⟨r5, s5⟩ := s4.text h.client (chk_size _ h.client)
  obtain ⟨a5, ha5⟩ : ∃ a5, (0 + ((txtE protoE).length : Int) + 1 + 1 + 2 + ((txtE p.client).length : Int)) = a5 := ⟨_, rfl⟩
  rw [ha5] at r5 s5
  have hlev : p.level % 256 = p.level := by have := h.lev; omega
  have hH : cHead l 0 none (pKind 1) = ⟨a5, none, uClient (uKeep (pMarks (pKind 1) p.level m) p.keep) p.client⟩ := by
    unfold cHead
    simp only [r1, r2, r3, r4, r5, hlev]
  have hB : cBad l 0 none none = none := by
    unfold cBad
    simp only [r1, r2, r3, d1, d24, proto_l]
    simp
  refine ⟨?_, hB⟩
  obtain ⟨f2a, f2b⟩ := h.f2 (by omega)
  obtain ⟨f3a, f3b⟩ := h.f3 (by omega)
  have fid := id0 h (.inl hk)
  have f8 := h.f8 (by omega)
  have f9 := h.f9 (by omega)
  have f10 := h.f10 (by omega)
  have hP : uClient (uKeep (pMarks (pKind 1) p.level m) p.keep) p.client = { p with will := ⟨⟨#[]⟩, [], p.will.qos, p.will.retain⟩, user := ⟨#[]⟩, pass := [] } := by
    unfold pMarks
    simp only [d2, d4, d64, d128, dq, d32]
    obtain ⟨pk, lv, cl, ka, ct, hwl, ⟨wt, wp, wq, wr⟩, hus, us, hpa, pa, pr, cd, dp, mm, pid, asks, cods, fils⟩ := p
    dsimp only at *
    subst hk f2a f2b f3a f3b fid f8 f9 f10
    rfl
  rw [hP] at hH
  have hW : ∃ a6, sWill l (cHead l 0 none (pKind 1)) = ⟨a6, none, { p with user := ⟨#[]⟩, pass := [] }⟩ ∧ Suf l a6 ((if p.hasUser then txtE p.user else []) ++ ((if p.hasPass then datE p.pass else []) ++ [])) := by
    rw [hH]
    unfold sWill
    cases hw : p.hasWill with
    | true =>
      rw [hw, if_pos rfl, List.append_assoc] at s5
      obtain ⟨r6, s6⟩ := s5.text (h.wtop hw) (chk_size _ (h.wtop hw))
      obtain ⟨r7, s7⟩ := s6.data h.wlen
      refine ⟨_, ?_, s7⟩
      simp only [hw, if_pos, r6, r7]
      rfl
    | false =>
      rw [hw, if_neg (by simp), List.nil_append] at s5
      refine ⟨a5, ?_, s5⟩
      have := h.fw hw
      simp only [hw, Bool.false_eq_true, if_false]
      rw [this]; rfl
  obtain ⟨a6, h6, s6⟩ := hW
  have hU : ∃ a7, sUser l (sWill l (cHead l 0 none (pKind 1))) = ⟨a7, none, { p with pass := [] }⟩ ∧ Suf l a7 ((if p.hasPass then datE p.pass else []) ++ []) := by
    rw [h6]
    unfold sUser
    cases hu : p.hasUser with
    | true =>
      rw [hu, if_pos rfl] at s6
      obtain ⟨r7, s7⟩ := s6.text h.user (chk_size _ h.user)
      refine ⟨_, ?_, s7⟩
      simp only [hu, if_pos, r7]
      rfl
    | false =>
      rw [hu, if_neg (by simp), List.nil_append] at s6
      refine ⟨a6, ?_, s6⟩
      have := h.fu hu
      simp only [hu, Bool.false_eq_true, if_false]
      rw [this]
  obtain ⟨a7, h7, s7⟩ := hU
  have hQ : ∃ a8, sPass l (sUser l (sWill l (cHead l 0 none (pKind 1)))) = ⟨a8, none, p⟩ ∧ Suf l a8 [] := by
    rw [h7]
    unfold sPass
    rcases Bool.eq_false_or_eq_true p.hasPass with hu | hu
    · rw [if_pos hu] at s7
      obtain ⟨r8, s8⟩ := s7.data h.plen
      refine ⟨_, ?_, s8⟩
      rw [if_pos hu]
      simp only [r8]
      rfl
    · rw [if_neg (by rw [hu]; decide), List.nil_append] at s7
      refine ⟨a7, ?_, s7⟩
      have := h.fp hu
      rw [if_neg (by show ¬ p.hasPass = true; rw [hu]; decide)]
      rw [← this]
  obtain ⟨a8, h8, s8⟩ := hQ
  unfold cConn
  simp only [h8]
  obtain ⟨e1, e2⟩ := s8.end_
  rw [e2, e1]
theorem asks_len : ∀ qs : List AskV, qs.length ≤ (asksE qs).length
  | [] => Nat.le_refl _
  | a :: l => by have := asks_len l; simp only [asksE, List.length_cons, List.length_append]; omega
theorem codes_len : ∀ qs : List Int, (codesE qs).length = qs.length
  | [] => rfl
  | a :: l => by have := codes_len l; simp only [codesE, List.length_cons]; omega
theorem fils_len : ∀ qs : List ByteArray, qs.length ≤ (filtE' qs).length
  | [] => Nat.le_refl _
  | a :: l => by
    have := fils_len l
    have h2 : (twoE a.size).length = 2 := rfl
    simp only [filtE', txtE, List.length_cons, List.length_append]; omega
theorem sub_back (l : List Int) : ∀ (qs : List AskV) (k : Nat) (s : CS), qs.length < k → Suf l s.a (asksE qs) → s.f = none → (∀ a ∈ qs, (chk a.filter).2 = 0 ∧ 0 ≤ a.qos ∧ a.qos ≤ 2) → subG l l.length k s = ⟨l.length, none, uAsks s.p (s.p.asks ++ qs)⟩ := by
  intro qs
  induction qs with
  | nil =>
    intro k s hk hs hf _
    obtain ⟨k, rfl⟩ : ∃ j, k = j + 1 := ⟨k - 1, by simp at hk; omega⟩
    have he := hs.end_
    have hm : cMore s.a s.f l.length none = false := by unfold cMore; rw [he.1]; simp
    simp only [subG, hm, Bool.false_eq_true, if_false, List.append_nil]
    obtain ⟨a, f, p⟩ := s
    dsimp only at he hf
    rw [he.1, hf]; rfl
  | cons a qs ih =>
    intro k s hk hs hf hall
    obtain ⟨k, rfl⟩ : ∃ j, k = j + 1 := ⟨k - 1, by simp at hk; omega⟩
    obtain ⟨sa, sf, p⟩ := s
    dsimp only at hs hf
    subst hf
    have ha := hall a List.mem_cons_self
    have hlen := hs.len
    simp only [asksE, List.append_assoc, List.length_append, List.length_cons, List.length_nil] at hlen
    have hm : cMore sa none l.length none = true := by unfold cMore; simp; omega
    have hs2 : Suf l sa (txtE a.filter ++ (a.qos % 256 :: asksE qs)) := by simpa [asksE] using hs
    obtain ⟨r1, s1⟩ := hs2.text ha.1 (chk_size _ ha.1)
    obtain ⟨r2, s2⟩ := s1.byte
    simp only [subG, hm, if_true, r1, r2]
    rw [ih k _ (by simp at hk; omega) s2 rfl (fun b hb => hall b (List.mem_cons_of_mem _ hb))]
    have e : a.qos % 256 = a.qos := by omega
    rw [e]
    unfold uAsks
    simp
theorem sac_back (l : List Int) : ∀ (qs : List Int) (k : Nat) (s : CS), qs.length < k → Suf l s.a (codesE qs) → s.f = none → (∀ a ∈ qs, 0 ≤ a ∧ a ≤ 255) → sacG l l.length k s = ⟨l.length, none, uCodes s.p (s.p.codes ++ qs)⟩ := by
  intro qs
  induction qs with
  | nil =>
    intro k s hk hs hf _
    obtain ⟨k, rfl⟩ : ∃ j, k = j + 1 := ⟨k - 1, by simp at hk; omega⟩
    have he := hs.end_
    have hm : cMore s.a s.f l.length none = false := by unfold cMore; rw [he.1]; simp
    simp only [sacG, hm, Bool.false_eq_true, if_false, List.append_nil]
    obtain ⟨a, f, p⟩ := s
    dsimp only at he hf
    rw [he.1, hf]; rfl
  | cons a qs ih =>
    intro k s hk hs hf hall
    obtain ⟨k, rfl⟩ : ∃ j, k = j + 1 := ⟨k - 1, by simp at hk; omega⟩
    obtain ⟨sa, sf, p⟩ := s
    dsimp only at hs hf
    subst hf
    have ha := hall a List.mem_cons_self
    have hlen := hs.len
    simp only [codesE, List.length_cons] at hlen
    have hm : cMore sa none l.length none = true := by unfold cMore; simp; omega
    have hs2 : Suf l sa (a % 256 :: codesE qs) := hs
    obtain ⟨r2, s2⟩ := hs2.byte
    simp only [sacG, hm, if_true, r2]
    rw [ih k _ (by simp at hk; omega) s2 rfl (fun b hb => hall b (List.mem_cons_of_mem _ hb))]
    have e : a % 256 = a := by omega
    rw [e]
    unfold uCodes
    simp
theorem uns_back (l : List Int) : ∀ (qs : List ByteArray) (k : Nat) (s : CS), qs.length < k → Suf l s.a (filtE' qs) → s.f = none → (∀ a ∈ qs, (chk a).2 = 0) → unsG l l.length k s = ⟨l.length, none, uFilters s.p (s.p.filters ++ qs)⟩ := by
  intro qs
  induction qs with
  | nil =>
    intro k s hk hs hf _
    obtain ⟨k, rfl⟩ : ∃ j, k = j + 1 := ⟨k - 1, by simp at hk; omega⟩
    have he := hs.end_
    have hm : cMore s.a s.f l.length none = false := by unfold cMore; rw [he.1]; simp
    simp only [unsG, hm, Bool.false_eq_true, if_false, List.append_nil]
    obtain ⟨a, f, p⟩ := s
    dsimp only at he hf
    rw [he.1, hf]; rfl
  | cons a qs ih =>
    intro k s hk hs hf hall
    obtain ⟨k, rfl⟩ : ∃ j, k = j + 1 := ⟨k - 1, by simp at hk; omega⟩
    obtain ⟨sa, sf, p⟩ := s
    dsimp only at hs hf
    subst hf
    have ha := hall a List.mem_cons_self
    have hlen := hs.len
    have h2 : (twoE a.size).length = 2 := rfl
    simp only [filtE', txtE, List.length_append, h2] at hlen
    have hm : cMore sa none l.length none = true := by unfold cMore; simp; omega
    have hs2 : Suf l sa (txtE a ++ filtE' qs) := hs
    obtain ⟨r1, s1⟩ := hs2.text ha (chk_size _ ha)
    simp only [unsG, hm, if_true, r1]
    rw [ih k _ (by simp at hk; omega) s1 rfl (fun b hb => hall b (List.mem_cons_of_mem _ hb))]
    unfold uFilters
    simp
theorem pub_dec : ∀ q : Int, (q = 0 ∨ q = 1 ∨ q = 2) → ∀ du re : Bool,
    let f := 2 * q + (if du then 8 else 0) + (if re then 1 else 0)
    (bits .and .i64 f 8 != 0) = du ∧ bits .and .i64 (f / 2) 3 = q ∧ (bits .and .i64 f 1 != 0) = re ∧ 0 ≤ f ∧ f ≤ 15 ∧ ((du = true → q ≠ 0) → ((bits .and .i64 f 6 != 6) && (decide (f < 8) || decide (bits .and .i64 f 6 > 0))) = true) := by
  intro q hq
  rcases hq with rfl | rfl | rfl <;> decide +kernel
theorem Pkt.ext' {p q : Pkt} (h1 : p.kind = q.kind) (h2 : p.level = q.level) (h3 : p.clean = q.clean) (h4 : p.keep = q.keep) (h5 : p.client = q.client) (h6 : p.hasWill = q.hasWill) (h7 : p.will = q.will) (h8 : p.hasUser = q.hasUser) (h9 : p.user = q.user) (h10 : p.hasPass = q.hasPass) (h11 : p.pass = q.pass) (h12 : p.present = q.present) (h13 : p.code = q.code) (h14 : p.dup = q.dup) (h15 : p.msg = q.msg) (h16 : p.id = q.id) (h17 : p.asks = q.asks) (h18 : p.codes = q.codes) (h19 : p.filters = q.filters) : p = q := by
  cases p; cases q; simp_all
theorem msg_eta (m : Msg) : (⟨m.topic, m.payload, m.qos, m.retain⟩ : Msg) = m := rfl
theorem fields_back {p : Pkt} (h : Right p) : fFields (fldE p) p.kind (flagsE p) = ⟨(fldE p).length, none, none, p⟩ := by
  have f1 := h.f1; have f2 := h.f2; have f3 := h.f3; have f8 := h.f8; have f9 := h.f9; have f10 := h.f10; have fw := h.fw; have fu := h.fu; have fp := h.fp
  rcases kind_cases h.k1 h.k14 with hk | hk | hk | hk | hk | hk | hk | hk | hk | hk | hk | hk | hk | hk
  · have e : fldE p = connE p := by unfold fldE; rw [if_pos hk]
    have hb := conn_back h hk
    rw [e, hk]
    unfold fFields
    rw [if_pos rfl, hb.1, hb.2]
  · have g1 := f1 (by omega); have g3 := f3 (by omega); have g8 := f8 (by omega); have g9 := f9 (by omega); have g10 := f10 (by omega)
    have gw := fw g1.2.2.2.2.1; have gu := fu g1.2.2.2.2.2.1; have gp := fp g1.2.2.2.2.2.2; have gi := id0 h (.inr (.inl hk))
    obtain ⟨b, hb⟩ : ∃ b : Int, b = if p.present then 1 else 0 := ⟨_, rfl⟩
    have e : fldE p = [b, p.code % 256] := by unfold fldE; rw [if_neg (by omega), if_pos hk, hb]
    have s0 : Suf (fldE p) 0 [b, p.code % 256] := by have := Suf.all (fldE p); rw [e] at this ⊢; exact this
    obtain ⟨r1, s1⟩ := s0.byte
    obtain ⟨r2, s2⟩ := s1.byte
    obtain ⟨e1, e2⟩ := s2.end_
    rw [hk]
    unfold fFields
    rw [if_neg (by decide), if_pos rfl]
    unfold fConnack
    rw [e1] at e2
    simp only [r1, r2, e1, e2]
    have hc : p.code % 256 = p.code := by have := h.code; omega
    have hb1 : decide (b > 1) = false := by rw [hb]; cases p.present <;> rfl
    have hb2 : (b == 1) = p.present := by rw [hb]; cases p.present <;> rfl
    rw [hb1, hb2, hc, if_neg (by simp)]
    refine congrArg (FR.mk _ _ _) ?_
    exact Pkt.ext' hk.symm g1.1.symm g1.2.1.symm g1.2.2.1.symm g1.2.2.2.1.symm g1.2.2.2.2.1.symm gw.symm g1.2.2.2.2.2.1.symm gu.symm g1.2.2.2.2.2.2.symm gp.symm rfl rfl g3.1.symm g3.2.symm gi.symm g8.symm g9.symm g10.symm
  · have g1 := f1 (by omega); have g2 := f2 (by omega); have g8 := f8 (by omega); have g9 := f9 (by omega); have g10 := f10 (by omega)
    have gw := fw g1.2.2.2.2.1; have gu := fu g1.2.2.2.2.2.1; have gp := fp g1.2.2.2.2.2.2; have gi := id3 h hk
    have e : fldE p = txtE p.msg.topic ++ ((if p.msg.qos > 0 then twoE p.id else []) ++ p.msg.payload) := by unfold fldE; rw [if_neg (by omega), if_neg (by omega), if_pos hk, List.append_assoc]
    have hf : flagsE p = 2 * p.msg.qos + (if p.dup then 8 else 0) + (if p.msg.retain then 1 else 0) := by unfold flagsE; rw [if_pos hk]
    have hd := pub_dec p.msg.qos (q_cases h.mqos) p.dup p.msg.retain
    rw [← hf] at hd
    obtain ⟨d8, d3, d1, _⟩ := hd
    have s0 : Suf (fldE p) 0 (txtE p.msg.topic ++ ((if p.msg.qos > 0 then twoE p.id else []) ++ p.msg.payload)) := by have := Suf.all (fldE p); rw [e] at this ⊢; exact this
    obtain ⟨r1, s1⟩ := s0.text (h.mtop hk) (chk_size _ (h.mtop hk))
    rw [hk]
    unfold fFields
    rw [if_neg (by decide), if_neg (by decide), if_pos rfl]
    unfold fPublish
    have hq : (uTopic (pPub (pKind 3) (flagsE p)) p.msg.topic).msg.qos = p.msg.qos := d3
    obtain ⟨a2, h2, s2⟩ : ∃ a2, sId (fldE p) ⟨0 + ((txtE p.msg.topic).length : Int), none, uTopic (pPub (pKind 3) (flagsE p)) p.msg.topic⟩ = ⟨a2, none, uId (uTopic (pPub (pKind 3) (flagsE p)) p.msg.topic) p.id⟩ ∧ Suf (fldE p) a2 p.msg.payload := by
      unfold sId
      simp only [hq]
      by_cases q0 : p.msg.qos > 0
      · rw [if_pos q0] at s1
        obtain ⟨r2, s2⟩ := s1.num (by have := gi.1 q0; omega) (gi.1 q0).2
        refine ⟨_, ?_, s2⟩
        rw [if_pos (decide_eq_true q0)]
        simp only [r2]
      · rw [if_neg q0, List.nil_append] at s1
        refine ⟨_, ?_, s1⟩
        rw [if_neg (by simpa using q0), gi.2 (by have := h.mqos; omega)]
        rfl
    simp only [r1, h2, s2.rest]
    refine congrArg (FR.mk _ _ _) ?_
    refine Pkt.ext' hk.symm g1.1.symm g1.2.1.symm g1.2.2.1.symm g1.2.2.2.1.symm g1.2.2.2.2.1.symm gw.symm g1.2.2.2.2.2.1.symm gu.symm g1.2.2.2.2.2.2.symm gp.symm g2.1.symm g2.2.symm d8 ?_ rfl g8.symm g9.symm g10.symm
    show (⟨p.msg.topic, p.msg.payload, bits .and .i64 (flagsE p / 2) 3, bits .and .i64 (flagsE p) 1 != 0⟩ : Msg) = p.msg
    rw [d3, d1]
  all_goals
    have g1 := f1 (by omega); have g2 := f2 (by omega); have g3 := f3 (by omega)
    have gw := fw g1.2.2.2.2.1; have gu := fu g1.2.2.2.2.2.1; have gp := fp g1.2.2.2.2.2.2
    first
      | have e : fldE p = [] := by unfold fldE; rw [if_neg (by omega), if_neg (by omega), if_neg (by omega), if_pos (by omega)]
        have g8 := f8 (by omega); have g9 := f9 (by omega); have g10 := f10 (by omega); have gi := id0 h (by omega)
        rw [e, hk]
        unfold fFields
        rw [if_neg (by decide), if_neg (by decide), if_neg (by decide), if_neg (by decide), if_neg (by decide), if_neg (by decide), if_neg (by decide)]
        have e2 := (Suf.all ([] : List Int)).end_
        rw [e2.2]
        refine congrArg (FR.mk _ _ _) ?_
        exact Pkt.ext' hk.symm g1.1.symm g1.2.1.symm g1.2.2.1.symm g1.2.2.2.1.symm g1.2.2.2.2.1.symm gw.symm g1.2.2.2.2.2.1.symm gu.symm g1.2.2.2.2.2.2.symm gp.symm g2.1.symm g2.2.symm g3.1.symm g3.2.symm gi.symm g8.symm g9.symm g10.symm
      | skip
  all_goals
    have gi := id1 h (by omega)
    have e : fldE p = twoE p.id ++ (asksE p.asks ++ (codesE p.codes ++ filtE' p.filters)) := by
      unfold fldE; rw [if_neg (by omega), if_neg (by omega), if_neg (by omega), if_neg (by omega)]; unfold restE; simp only [List.append_assoc]
    have s0 : Suf (fldE p) 0 (twoE p.id ++ (asksE p.asks ++ (codesE p.codes ++ filtE' p.filters))) := by have := Suf.all (fldE p); rw [e] at this ⊢; exact this
    obtain ⟨r1, s1⟩ := s0.num (by omega) gi.2
    have hl := s1.len
    simp only [List.length_append] at hl
    have l8 := asks_len p.asks; have l9 := codes_len p.codes; have l10 := fils_len p.filters
    rw [hk]
    unfold fFields cId
    simp only [r1]
  · have g8 := f8 (by omega); have g9 := f9 (by omega); have g10 := f10 (by omega)
    rw [g8, g9, g10] at s1
    obtain ⟨e1, e2⟩ := s1.end_
    rw [if_neg (by decide), if_neg (by decide), if_neg (by decide), if_neg (by decide), if_neg (by decide), if_neg (by decide), if_pos (by decide), e2, e1]
    refine congrArg (FR.mk _ _ _) ?_
    exact Pkt.ext' hk.symm g1.1.symm g1.2.1.symm g1.2.2.1.symm g1.2.2.2.1.symm g1.2.2.2.2.1.symm gw.symm g1.2.2.2.2.2.1.symm gu.symm g1.2.2.2.2.2.2.symm gp.symm g2.1.symm g2.2.symm g3.1.symm g3.2.symm rfl g8.symm g9.symm g10.symm
  · have g8 := f8 (by omega); have g9 := f9 (by omega); have g10 := f10 (by omega)
    rw [g8, g9, g10] at s1
    obtain ⟨e1, e2⟩ := s1.end_
    rw [if_neg (by decide), if_neg (by decide), if_neg (by decide), if_neg (by decide), if_neg (by decide), if_neg (by decide), if_pos (by decide), e2, e1]
    refine congrArg (FR.mk _ _ _) ?_
    exact Pkt.ext' hk.symm g1.1.symm g1.2.1.symm g1.2.2.1.symm g1.2.2.2.1.symm g1.2.2.2.2.1.symm gw.symm g1.2.2.2.2.2.1.symm gu.symm g1.2.2.2.2.2.2.symm gp.symm g2.1.symm g2.2.symm g3.1.symm g3.2.symm rfl g8.symm g9.symm g10.symm
  · have g8 := f8 (by omega); have g9 := f9 (by omega); have g10 := f10 (by omega)
    rw [g8, g9, g10] at s1
    obtain ⟨e1, e2⟩ := s1.end_
    rw [if_neg (by decide), if_neg (by decide), if_neg (by decide), if_neg (by decide), if_neg (by decide), if_neg (by decide), if_pos (by decide), e2, e1]
    refine congrArg (FR.mk _ _ _) ?_
    exact Pkt.ext' hk.symm g1.1.symm g1.2.1.symm g1.2.2.1.symm g1.2.2.2.1.symm g1.2.2.2.2.1.symm gw.symm g1.2.2.2.2.2.1.symm gu.symm g1.2.2.2.2.2.2.symm gp.symm g2.1.symm g2.2.symm g3.1.symm g3.2.symm rfl g8.symm g9.symm g10.symm
  · have g8 := f8 (by omega); have g9 := f9 (by omega); have g10 := f10 (by omega)
    rw [g8, g9, g10] at s1
    obtain ⟨e1, e2⟩ := s1.end_
    rw [if_neg (by decide), if_neg (by decide), if_neg (by decide), if_neg (by decide), if_neg (by decide), if_neg (by decide), if_pos (by decide), e2, e1]
    refine congrArg (FR.mk _ _ _) ?_
    exact Pkt.ext' hk.symm g1.1.symm g1.2.1.symm g1.2.2.1.symm g1.2.2.2.1.symm g1.2.2.2.2.1.symm gw.symm g1.2.2.2.2.2.1.symm gu.symm g1.2.2.2.2.2.2.symm gp.symm g2.1.symm g2.2.symm g3.1.symm g3.2.symm rfl g8.symm g9.symm g10.symm
  · have g9 := f9 (by omega); have g10 := f10 (by omega)
    rw [g9, g10] at s1
    rw [if_neg (by decide), if_neg (by decide), if_neg (by decide), if_pos (by decide)]
    rw [sub_back (fldE p) p.asks ((fldE p).length + 1) ⟨0 + 2, none, uId (pKind 8) p.id⟩ (by omega) (by simpa [codesE, filtE'] using s1) rfl h.asks]
    refine congrArg (FR.mk _ _ _) ?_
    exact Pkt.ext' hk.symm g1.1.symm g1.2.1.symm g1.2.2.1.symm g1.2.2.2.1.symm g1.2.2.2.2.1.symm gw.symm g1.2.2.2.2.2.1.symm gu.symm g1.2.2.2.2.2.2.symm gp.symm g2.1.symm g2.2.symm g3.1.symm g3.2.symm rfl rfl g9.symm g10.symm
  · have g8 := f8 (by omega); have g10 := f10 (by omega)
    rw [g8, g10] at s1
    rw [if_neg (by decide), if_neg (by decide), if_neg (by decide), if_neg (by decide), if_pos (by decide)]
    rw [sac_back (fldE p) p.codes ((fldE p).length + 1) ⟨0 + 2, none, uId (pKind 9) p.id⟩ (by omega) (by simpa [asksE, filtE'] using s1) rfl h.codes]
    refine congrArg (FR.mk _ _ _) ?_
    exact Pkt.ext' hk.symm g1.1.symm g1.2.1.symm g1.2.2.1.symm g1.2.2.2.1.symm g1.2.2.2.2.1.symm gw.symm g1.2.2.2.2.2.1.symm gu.symm g1.2.2.2.2.2.2.symm gp.symm g2.1.symm g2.2.symm g3.1.symm g3.2.symm rfl g8.symm rfl g10.symm
  · have g8 := f8 (by omega); have g9 := f9 (by omega)
    rw [g8, g9] at s1
    rw [if_neg (by decide), if_neg (by decide), if_neg (by decide), if_neg (by decide), if_neg (by decide), if_pos (by decide)]
    rw [uns_back (fldE p) p.filters ((fldE p).length + 1) ⟨0 + 2, none, uId (pKind 10) p.id⟩ (by omega) (by simpa [asksE, codesE] using s1) rfl h.fils]
    refine congrArg (FR.mk _ _ _) ?_
    exact Pkt.ext' hk.symm g1.1.symm g1.2.1.symm g1.2.2.1.symm g1.2.2.2.1.symm g1.2.2.2.2.1.symm gw.symm g1.2.2.2.2.2.1.symm gu.symm g1.2.2.2.2.2.2.symm gp.symm g2.1.symm g2.2.symm g3.1.symm g3.2.symm rfl g8.symm g9.symm rfl
  · have g8 := f8 (by omega); have g9 := f9 (by omega); have g10 := f10 (by omega)
    rw [g8, g9, g10] at s1
    obtain ⟨e1, e2⟩ := s1.end_
    rw [if_neg (by decide), if_neg (by decide), if_neg (by decide), if_neg (by decide), if_neg (by decide), if_neg (by decide), if_pos (by decide), e2, e1]
    refine congrArg (FR.mk _ _ _) ?_
    exact Pkt.ext' hk.symm g1.1.symm g1.2.1.symm g1.2.2.1.symm g1.2.2.2.1.symm g1.2.2.2.2.1.symm gw.symm g1.2.2.2.2.2.1.symm gu.symm g1.2.2.2.2.2.2.symm gp.symm g2.1.symm g2.2.symm g3.1.symm g3.2.symm rfl g8.symm g9.symm g10.symm
end Go.Proofs.YthlbcgaegaoanaaGreatDoor.Cr

namespace Go.Proofs.YthlbcgaegaoanaaGreatDoor.Cr
open Go Go.RowKit Go.Proofs.YthlbcgaegaoanaaGreatDoorW.PrintWords Go.Proofs.YthlbcgaegaoanaaGreatDoorW.PrintLast Go.Proofs.YthlbcgaegaoanaaGreatDoorW.PrintMore Go.Proofs.YthlbcgaegaoanaaGreatDoor.Kinds Go.Proofs.YthlbcgaegaoanaaGreatDoor.Utf Go.Proofs.YthlbcgaegaoanaaGreatDoor.Chk Go.Proofs.YthlbcgaegaoanaaGreatDoor.Rdr
set_option linter.unusedVariables false
set_option linter.unusedSimpArgs false
theorem w64 {x : Int} (h0 : 0 ≤ x) (h1 : x ≤ 9000000000000000000) : wrap64 x = x := by unfold wrap64; omega
theorem txtE_len (t : ByteArray) : (txtE t).length = 2 + t.size := by
  have h2 : (twoE t.size).length = 2 := rfl
  unfold txtE; rw [List.length_append, h2, bytesOf_len]
theorem datE_len (d : List Int) : (datE d).length = 2 + d.length := by
  have h2 : (twoE d.length).length = 2 := rfl
  unfold datE; rw [List.length_append, h2]
theorem lenA_eq : ∀ (qs : List AskV) (n : Int), 0 ≤ n → n + 65540 * qs.length ≤ 4000000000000000000 → (∀ a ∈ qs, (chk a.filter).2 = 0) → lenA n qs = n + (asksE qs).length
  | [], n, h0, h1, h => by simp [lenA, asksE]
  | a :: l, n, h0, h1, h => by
    have hs := chk_size _ (h a List.mem_cons_self)
    simp only [List.length_cons] at h1
    have e : partL true (wrap64 ((a.filter.size : Int) + 1)) n = n + (3 + a.filter.size) := by
      unfold partL
      rw [if_pos rfl, w64 (x := (a.filter.size : Int) + 1) (by omega) (by omega), w64 (x := 2 + ((a.filter.size : Int) + 1)) (by omega) (by omega), w64 (by omega) (by omega)]
      omega
    simp only [lenA]
    rw [e, lenA_eq l _ (by omega) (by omega) (fun b hb => h b (List.mem_cons_of_mem _ hb))]
    simp only [asksE, List.length_append, txtE_len, List.length_cons, List.length_nil]
    omega
theorem lenF_eq : ∀ (qs : List ByteArray) (n : Int), 0 ≤ n → n + 65540 * qs.length ≤ 4000000000000000000 → (∀ f ∈ qs, (chk f).2 = 0) → lenF n qs = n + (filtE' qs).length
  | [], n, h0, h1, h => by simp [lenF, filtE']
  | a :: l, n, h0, h1, h => by
    have hs := chk_size _ (h a List.mem_cons_self)
    simp only [List.length_cons] at h1
    have e : partL true (a.size : Int) n = n + (2 + a.size) := by
      unfold partL
      rw [if_pos rfl, w64 (x := 2 + (a.size : Int)) (by omega) (by omega), w64 (by omega) (by omega)]
    simp only [lenF]
    rw [e, lenF_eq l _ (by omega) (by omega) (fun b hb => h b (List.mem_cons_of_mem _ hb))]
    simp only [filtE', List.length_append, txtE_len]
    omega
theorem codesE_len : ∀ qs : List Int, (codesE qs).length = qs.length
  | [] => rfl
  | a :: l => by simp [codesE, codesE_len l]
theorem has_pos : ∀ k : Int, 1 ≤ k → k ≤ 14 →
    (decide (bits .and .i64 (hasL.getD k.toNat 0) 1 > 0) = decide (k = 1)) ∧ (decide (bits .and .i64 (hasL.getD k.toNat 0) 2 > 0) = decide (k = 2)) ∧ (decide (bits .and .i64 (hasL.getD k.toNat 0) 4 > 0) = decide (k = 3)) ∧ (decide (bits .and .i64 (hasL.getD k.toNat 0) 8 > 0) = decide (4 ≤ k ∧ k ≤ 11)) := by
  intro k h1 h2
  rcases kind_cases h1 h2 with h | h | h | h | h | h | h | h | h | h | h | h | h | h <;> subst h <;> decide
theorem part_eq {t : Bool} {l n : Int} (h0 : 0 ≤ l) (h1 : l ≤ 2000000000000) (h2 : 0 ≤ n) (h3 : n ≤ 4000000000000000000) : partL t l n = n + (if t then 2 + l else 0) := by
  unfold partL
  cases t with
  | false => simp
  | true => rw [if_pos rfl, if_pos rfl, w64 (x := 2 + l) (by omega) (by omega), w64 (by omega) (by omega)]
theorem if_len (t : Bool) (l : List Int) : ((if t then l else []).length : Int) = (if t then (l.length : Int) else 0) := by cases t <;> rfl
theorem lenC_eq {p : Pkt} (h : Right p) : lenC p = (connE p).length := by
  have h1 := chk_size _ h.client
  have h2 := chk_size _ h.user
  have h3 := h.wlen
  have h4 := h.plen
  have h5 : (p.will.topic.size : Int) ≤ 65535 ∨ p.hasWill = false := by
    cases hw : p.hasWill with
    | true => left; have := chk_size _ (h.wtop hw); omega
    | false => right; rfl
  have e0 : (txtE protoE).length = 6 := by rw [txtE_len]; rfl
  have e1 : (twoE p.keep).length = 2 := rfl
  have eC : ((connE p).length : Int) = 10 + (2 + p.client.size) + (if p.hasWill then (2 + p.will.topic.size : Int) + (2 + p.will.payload.length) else 0) + (if p.hasUser then (2 + p.user.size : Int) else 0) + (if p.hasPass then (2 + p.pass.length : Int) else 0) := by
    unfold connE
    simp only [List.length_append, e0, e1, List.length_cons, List.length_nil, txtE_len, Int.natCast_add, if_len, datE_len]
    simp only [← Int.natCast_add]
    split <;> split <;> split <;> simp <;> omega
  rw [eC]
  unfold lenC
  obtain ⟨tw, htw⟩ : ∃ tw : Int, tw = if p.hasWill then 2 + (p.will.topic.size : Int) else 0 := ⟨_, rfl⟩
  obtain ⟨pw, hpw⟩ : ∃ pw : Int, pw = if p.hasWill then 2 + (p.will.payload.length : Int) else 0 := ⟨_, rfl⟩
  obtain ⟨uu, huu⟩ : ∃ uu : Int, uu = if p.hasUser then 2 + (p.user.size : Int) else 0 := ⟨_, rfl⟩
  have b1 : 0 ≤ tw ∧ tw ≤ 65537 := by
    rcases h5 with h5 | h5
    · rw [htw]; split <;> omega
    · rw [htw, h5]; simp
  have b2 : 0 ≤ pw ∧ pw ≤ 65537 := by rw [hpw]; split <;> omega
  have b3 : 0 ≤ uu ∧ uu ≤ 65537 := by rw [huu]; split <;> omega
  have e2 : partL p.hasWill p.will.topic.size (10 + (2 + (p.client.size : Int))) = 10 + (2 + p.client.size) + tw := by
    rcases h5 with h5 | h5
    · rw [part_eq (by omega) (by omega) (by omega) (by omega), htw]
    · rw [htw, h5]; simp [partL]
  rw [part_eq (t := true) (by omega) (by omega) (by omega) (by omega), if_pos rfl, e2, part_eq (t := p.hasWill) (by omega) (by omega) (by omega) (by omega), ← hpw, part_eq (t := p.hasUser) (by omega) (by omega) (by omega) (by omega), ← huu, part_eq (t := p.hasPass) (by omega) (by omega) (by omega) (by omega), htw, hpw, huu]
  cases p.hasWill <;> cases p.hasUser <;> cases p.hasPass <;> simp <;> omega
theorem len_fld {p : Pkt} (h : Right p) (ha : p.asks.length ≤ 1099511627776) (hf : p.filters.length ≤ 1099511627776) (hc : p.codes.length ≤ 1099511627776) (hm : p.msg.payload.length ≤ 1099511627776) : lenP p = (fldE p).length := by
  obtain ⟨b1, b2, b4, b8⟩ := has_pos p.kind h.k1 h.k14
  have hn : numB p = (decide (4 ≤ p.kind ∧ p.kind ≤ 11) || (decide (p.kind = 3) && (p.msg.qos != 0))) := by unfold numB pHas; rw [b8, b4]
  have el4 : len4 p = if p.kind = 3 then partL true p.msg.topic.size p.msg.payload.length else if p.kind = 2 then 2 else if p.kind = 1 then lenC p else 0 := by
    unfold len4 len2 len1 pHas
    rw [b1, b2, b4]
    simp only [decide_eq_true_eq]
  unfold lenP
  rw [el4, hn]
  have hA : ∀ a ∈ p.asks, (chk a.filter).2 = 0 := fun a ha => (h.asks a ha).1
  by_cases k1 : p.kind = 1
  · have g8 := h.f8 (by omega); have g9 := h.f9 (by omega); have g10 := h.f10 (by omega)
    have e : fldE p = connE p := by unfold fldE; rw [if_pos k1]
    have hb := lenC_eq h
    have hb2 : (connE p).length ≤ 400000 := by
      have h1 := chk_size _ h.client
      have h2 := chk_size _ h.user
      have h3 := h.wlen
      have h4 := h.plen
      have e0 : (txtE protoE).length = 6 := by rw [txtE_len]; rfl
      have e1 : (twoE p.keep).length = 2 := rfl
      unfold connE
      simp only [List.length_append, e0, e1, List.length_cons, List.length_nil, txtE_len]
      cases hw : p.hasWill with
      | true =>
        have := chk_size _ (h.wtop hw)
        cases p.hasUser <;> cases p.hasPass <;> simp [txtE_len, datE_len] <;> omega
      | false => cases p.hasUser <;> cases p.hasPass <;> simp [txtE_len, datE_len] <;> omega
    rw [g8, g9, g10, e, if_neg (by omega), if_neg (by omega), if_pos k1, hb]
    rw [show (decide (4 ≤ p.kind ∧ p.kind ≤ 11) || (decide (p.kind = 3) && (p.msg.qos != 0))) = false by rw [k1]; rfl]
    simp only [partL, lenA, lenF, Bool.false_eq_true, if_false, List.length_nil]
    rw [w64 (by omega) (by omega)]; simp
  · by_cases k2 : p.kind = 2
    · have g8 := h.f8 (by omega); have g9 := h.f9 (by omega); have g10 := h.f10 (by omega)
      have e : fldE p = [if p.present then 1 else 0, p.code % 256] := by unfold fldE; rw [if_neg k1, if_pos k2]
      rw [g8, g9, g10, e, if_neg (by omega), if_pos k2]
      rw [show (decide (4 ≤ p.kind ∧ p.kind ≤ 11) || (decide (p.kind = 3) && (p.msg.qos != 0))) = false by rw [k2]; rfl]
      simp only [partL, lenA, lenF, Bool.false_eq_true, if_false, List.length_nil, List.length_cons]
      rw [w64 (by omega) (by omega)]; rfl
    · by_cases k3 : p.kind = 3
      · have g8 := h.f8 (by omega); have g9 := h.f9 (by omega); have g10 := h.f10 (by omega)
        have hs := chk_size _ (h.mtop k3)
        have e : fldE p = txtE p.msg.topic ++ (if p.msg.qos > 0 then twoE p.id else []) ++ p.msg.payload := by unfold fldE; rw [if_neg k1, if_neg k2, if_pos k3]
        have hq := h.mqos
        have e2 : (twoE p.id).length = 2 := rfl
        rw [g8, g9, g10, e, if_pos k3]
        rw [show (decide (4 ≤ p.kind ∧ p.kind ≤ 11) || (decide (p.kind = 3) && (p.msg.qos != 0))) = decide (p.msg.qos > 0) by
          rw [k3]
          by_cases q0 : p.msg.qos = 0
          · rw [q0]; rfl
          · rw [show (p.msg.qos != 0) = true from bne_iff_ne.2 q0, decide_eq_true (show p.msg.qos > 0 by omega)]; rfl]
        rw [part_eq (t := true) (by omega) (by omega) (by omega) (by omega), if_pos rfl]
        rw [part_eq (by omega) (by omega) (by omega) (by omega)]
        simp only [lenA, lenF, List.length_append, txtE_len, List.length_nil]
        by_cases q0 : p.msg.qos > 0
        · rw [if_pos (decide_eq_true q0), if_pos q0, e2, w64 (by omega) (by omega)]; omega
        · rw [if_neg (by simpa using q0), if_neg q0, w64 (by omega) (by omega)]; simp; omega
      · rw [if_neg k3, if_neg k2, if_neg k1]
        by_cases kk : p.kind = 12 ∨ p.kind = 13 ∨ p.kind = 14
        · have g8 := h.f8 (by omega); have g9 := h.f9 (by omega); have g10 := h.f10 (by omega)
          have e : fldE p = [] := by unfold fldE; rw [if_neg k1, if_neg k2, if_neg k3, if_pos kk]
          rw [g8, g9, g10, e]
          rw [show (decide (4 ≤ p.kind ∧ p.kind ≤ 11) || (decide (p.kind = 3) && (p.msg.qos != 0))) = false by
            rw [show decide (4 ≤ p.kind ∧ p.kind ≤ 11) = false from decide_eq_false (by omega), show decide (p.kind = 3) = false from decide_eq_false k3]; rfl]
          simp only [partL, lenA, lenF, Bool.false_eq_true, if_false, List.length_nil]
          rw [w64 (by omega) (by omega)]; rfl
        · have e : fldE p = restE p := by unfold fldE; rw [if_neg k1, if_neg k2, if_neg k3, if_neg kk]
          have hk := h.k1; have hk2 := h.k14
          rw [e]
          rw [show (decide (4 ≤ p.kind ∧ p.kind ≤ 11) || (decide (p.kind = 3) && (p.msg.qos != 0))) = true by
            rw [show decide (4 ≤ p.kind ∧ p.kind ≤ 11) = true from decide_eq_true (by omega)]; rfl]
          rw [show partL true 0 0 = 2 by decide +kernel]
          have e2 : (twoE p.id).length = 2 := rfl
          have la := lenA_eq p.asks 2 (by omega) (by omega) hA
          have hal : ((asksE p.asks).length : Int) ≤ 65540 * p.asks.length := by
            have : ∀ qs : List AskV, (∀ a ∈ qs, (chk a.filter).2 = 0) → (asksE qs).length ≤ 65540 * qs.length := by
              intro qs
              induction qs with
              | nil => intro _; simp [asksE]
              | cons a l ih =>
                intro hq
                have := ih (fun b hb => hq b (List.mem_cons_of_mem _ hb))
                have := chk_size _ (hq a List.mem_cons_self)
                simp only [asksE, List.length_append, txtE_len, List.length_cons, List.length_nil]; omega
            have := this _ hA
            omega
          have hfl : ((filtE' p.filters).length : Int) ≤ 65540 * p.filters.length := by
            have : ∀ qs : List ByteArray, (∀ a ∈ qs, (chk a).2 = 0) → (filtE' qs).length ≤ 65540 * qs.length := by
              intro qs
              induction qs with
              | nil => intro _; simp [filtE']
              | cons a l ih =>
                intro hq
                have := ih (fun b hb => hq b (List.mem_cons_of_mem _ hb))
                have := chk_size _ (hq a List.mem_cons_self)
                simp only [filtE', List.length_append, txtE_len, List.length_cons]; omega
            have := this _ h.fils
            omega
          rw [la, lenF_eq p.filters _ (by omega) (by omega) h.fils, w64 (by omega) (by omega)]
          unfold restE
          simp only [List.length_append, e2, codesE_len]
          omega
end Go.Proofs.YthlbcgaegaoanaaGreatDoor.Cr

namespace Go.Proofs.YthlbcgaegaoanaaGreatDoor.Cr
open Go Go.RowKit Go.Proofs.YthlbcgaegaoanaaGreatDoorW.PrintWords Go.Proofs.YthlbcgaegaoanaaGreatDoorW.PrintLast Go.Proofs.YthlbcgaegaoanaaGreatDoorW.PrintMore Go.Proofs.YthlbcgaegaoanaaGreatDoor.Kinds Go.Proofs.YthlbcgaegaoanaaGreatDoor.Utf Go.Proofs.YthlbcgaegaoanaaGreatDoor.Chk Go.Proofs.YthlbcgaegaoanaaGreatDoor.Rdr
set_option linter.unusedVariables false
set_option linter.unusedSimpArgs false
theorem headG_enc (most : Int) : ∀ (f i g : Nat) (m n : Int) (xs pre more : List Int), xs = pre ++ lenE g m ++ more → pre.length = i → f + i = 5 → 1 ≤ i → 0 ≤ m → m < 128 ^ f → f ≤ g → 1 ≤ f →
    headG xs most f i n = if n + m * 128 ^ (i - 1) > most then (0, 0, some (1, 32)) else ((i : Int) + (lenE g m).length, n + m * 128 ^ (i - 1), none)
  | 0, i, g, m, n, xs, pre, more, hx, hp, hf, hi, h0, h1, hg, h1f => absurd h1f (by omega)
  | f + 1, i, g, m, n, xs, pre, more, hx, hp, hf, hi, h0, h1, hg, _ => by
    obtain ⟨g, rfl⟩ : ∃ j, g = j + 1 := ⟨g - 1, by omega⟩
    have hrd : ∀ (b : Int) (t : List Int), lenE (g + 1) m = b :: t → rd xs (i : Int) = b ∧ i < xs.length := fun b t e => by
      constructor
      · unfold rd
        rw [hx, e]
        simp only [Int.toNat_natCast, List.getD_eq_getElem?_getD]
        rw [List.append_assoc, List.getElem?_append_right (by omega), hp]
        simp
      · rw [hx, e]; simp; omega
    simp only [headG]
    by_cases hm : 128 ≤ m
    · have e : lenE (g + 1) m = (m % 128 + 128) :: lenE g (m / 128) := by simp only [lenE, if_pos hm]
      obtain ⟨r, hl⟩ := hrd _ _ e
      have hf1 : f ≠ 0 := by rintro rfl; simp at h1; omega
      have hpow : (128 : Int) ^ i = 128 ^ (i - 1) * 128 := by rw [← Int.pow_succ]; congr 1; omega
      rw [if_neg (by omega), r, if_neg (by omega), if_pos (by omega), headG_enc most f (i + 1) g (m / 128) _ xs (pre ++ [m % 128 + 128]) more (by rw [hx, e]; simp) (by simp [hp]) (by omega) (by omega) (by omega) (by rw [Int.pow_succ] at h1; omega) (by omega) (by omega), e]
      have hv : n + (m % 128 + 128) % 128 * 128 ^ (i - 1) + m / 128 * 128 ^ (i + 1 - 1) = n + m * 128 ^ (i - 1) := by
        rw [show i + 1 - 1 = i by omega, hpow, show (m % 128 + 128) % 128 = m % 128 by omega, Int.add_assoc, show m / 128 * (128 ^ (i - 1) * 128) = (m / 128 * 128) * 128 ^ (i - 1) by rw [Int.mul_comm (128 ^ (i - 1)) 128, Int.mul_assoc], ← Int.add_mul, show m % 128 + m / 128 * 128 = m by omega]
      rw [hv]
      split
      · rfl
      · refine Prod.ext ?_ rfl
        simp only [List.length_cons]; omega
    · have e : lenE (g + 1) m = [m % 256] := by simp only [lenE, if_neg hm]
      obtain ⟨r, hl⟩ := hrd _ _ e
      have hmm : m % 256 = m := by omega
      rw [hmm] at r e
      rw [if_neg (by omega), r, if_neg (by omega), if_neg (by omega), show m % 128 = m by omega, e]
      rfl
theorem lenE_len : ∀ f m, 1 ≤ (lenE f m).length
  | 0, m => by simp [lenE]
  | f + 1, m => by simp only [lenE]; split <;> simp
theorem mayB_flags {p : Pkt} (h : Right p) : mayB p.kind (flagsE p) = true := by
  unfold mayB
  by_cases k3 : p.kind = 3
  · rw [if_pos k3]
    have hf : flagsE p = 2 * p.msg.qos + (if p.dup then 8 else 0) + (if p.msg.retain then 1 else 0) := by unfold flagsE; rw [if_pos k3]
    have hd := pub_dec p.msg.qos (q_cases h.mqos) p.dup p.msg.retain
    rw [← hf] at hd
    exact hd.2.2.2.2.2 h.dq
  · rw [if_neg k3]
    unfold flagsE
    rw [if_neg k3]
    simp
theorem flagsE_rng {p : Pkt} (h : Right p) : 0 ≤ flagsE p ∧ flagsE p ≤ 15 := by
  unfold flagsE
  by_cases k3 : p.kind = 3
  · rw [if_pos k3]
    have := h.mqos
    cases p.dup <;> cases p.msg.retain <;> simp <;> omega
  · rw [if_neg k3]
    rcases kind_cases h.k1 h.k14 with e | e | e | e | e | e | e | e | e | e | e | e | e | e <;> rw [e] <;> decide
theorem dec_enc {p : Pkt} (hp : pchk p = 0) (hl : (fldE p).length ≤ 268435455) (more : List Int) (most : Int) :
    decP (encE p ++ more) most = if ((fldE p).length : Int) > topP most then ⟨noPkt, 0, some (1, 32)⟩ else ⟨p, (encE p).length, none⟩ := by
  have h := pchk_right hp
  have hfr := flagsE_rng h
  have hk1 := h.k1; have hk2 := h.k14
  obtain ⟨b0, hb0⟩ : ∃ b0, b0 = p.kind * 16 + flagsE p := ⟨_, rfl⟩
  have hE : encE p ++ more = b0 :: (lenE 5 (fldE p).length ++ (fldE p ++ more)) := by unfold encE; rw [hb0]; simp
  have hr0 : rd (encE p ++ more) 0 = b0 := by rw [hE]; rfl
  have hne : (encE p ++ more).length ≠ 0 := by rw [hE]; simp
  have hhead : headP (encE p ++ more) (topP most) = if ((fldE p).length : Int) > topP most then (0, 0, some (1, 32)) else (1 + ((lenE 5 (fldE p).length).length : Int), ((fldE p).length : Int), none) := by
    unfold headP
    rw [if_neg hne, hr0, if_neg (by omega), show b0 / 16 = p.kind by omega, show b0 % 16 = flagsE p by omega, if_pos (mayB_flags h)]
    rw [headG_enc (topP most) 4 1 5 ((fldE p).length : Int) 0 (encE p ++ more) [b0] (fldE p ++ more) (by rw [hE]; simp) rfl rfl (by omega) (by omega) (by omega) (by omega) (by omega)]
    simp
  unfold decP
  rw [hhead]
  by_cases ht : ((fldE p).length : Int) > topP most
  · rw [if_pos ht, if_pos ht]; rfl
  · rw [if_neg ht, if_neg ht]
    have hlen : (encE p).length = 1 + (lenE 5 (fldE p).length).length + (fldE p).length := by unfold encE; simp; omega
    have hall : (encE p ++ more).length = 1 + (lenE 5 (fldE p).length).length + (fldE p).length + more.length := by rw [List.length_append, hlen]
    unfold decF
    rw [if_neg (by simp), if_neg (by simp only; rw [hall]; omega)]
    have hsl : ((encE p ++ more).drop (1 + ((lenE 5 (fldE p).length).length : Int)).toNat).take ((fldE p).length : Int).toNat = fldE p := by
      rw [hE, show (1 + ((lenE 5 (fldE p).length).length : Int)).toNat = (lenE 5 (fldE p).length).length + 1 by omega, List.drop_succ_cons, List.drop_left' rfl, Int.toNat_natCast, List.take_left' rfl]
    simp only [hsl, hr0]
    rw [show b0 / 16 = p.kind by omega, show b0 % 16 = flagsE p by omega, fields_back h]
    simp only [Option.or_none, hp, if_true]
    rw [hlen]
    congr 1
end Go.Proofs.YthlbcgaegaoanaaGreatDoor.Cr

/- crierlaw14.all: Next till it answers nothing. No statement of the program. ConnOrder's walk: the first packet is a Connect and no other one is; what ends is last. No statement of the program. -/
import Derived.Test.YthlbcgaegaoanaaGreatDoorMKnown
import Derived.Great.BuildSlice
import Derived.BigQuiet
import Derived.Deep.MidRow
namespace Go.Proofs.YthlbcgaegaoanaaGreatDoor.Cr
open Go Go.RowKit Go.Proofs.YthlbcgaegaoanaaGreatDoorW.PrintWords Go.Proofs.YthlbcgaegaoanaaGreatDoorW.PrintLast Go.Proofs.YthlbcgaegaoanaaGreatDoorW.PrintMore Go.Proofs.YthlbcgaegaoanaaGreatDoor.Kinds Go.Proofs.YthlbcgaegaoanaaGreatDoor.Utf Go.Proofs.YthlbcgaegaoanaaGreatDoor.Chk Go.Proofs.YthlbcgaegaoanaaGreatDoor.Rdr
set_option linter.unusedVariables false
set_option linter.unusedSimpArgs false
theorem wpList_buildOne {P : Program} {ops : Array Oper} {rest : List Oper} {o : Oper} {a : Act} {w : World} {Q : Exit → Act → World → Prop} (hg : o.guard = none) (t e : TypeId) (x : Operand) (ho : o.op = .buildSlice t 1 #[(0, x)])
    (cs : List Value) (hx : a.eval x = .agg cs.toArray) (z : Value) (sz bytes : Nat) (hu : P.underlying t = some (.slice e)) (hinfo : (P.info? e).map (fun i => (i.zero, i.size, i.bytes)) = some (some z, sz, bytes)) (hz : z.cells.size = sz) (hl : cs.length = sz) (h0 : 0 < sz) (hsm : sz ≤ 2 ^ 24)
    (h : wpList P ops Q rest (a.put o.dst (.slice (some ⟨w.heap.size, 0, none⟩) 1 1)) (w.alloc (.cells cs.toArray e))) : wpList P ops Q (o :: rest) a w := by
  obtain ⟨ie, hi, hzz⟩ := Option.map_eq_some_iff.1 hinfo
  simp only [Prod.mk.injEq] at hzz
  obtain ⟨hz0, hz1, hz2⟩ := hzz
  refine wpList_buildSlice hg t e 1 _ ho cs.toArray ie z hu hi hz0 (by rw [hz1]; omega) (by rw [hz1]; omega) ?_ h
  have hf := Great.fill_whole (s := ie.size) (by omega) [.agg cs.toArray] ((Array.range (1 * ie.size)).map (z.cells[· % z.cells.size]!)) (by simp [Value.cells, hl, hz1]) (by simp)
  simpa [hx, Value.cells] using hf
theorem infoIn : (Tryz.prog.info? 41).map (fun i => (i.zero, i.size, i.bytes)) = some (some (.agg inCells0), 28, 352) := by kernel_rfl
structure AllAt (w0 w : World) (base C F : Nat) (most pat : Int) (s : CoS) (wr : World) (v : Value) (acc : List InV) (s1 : CoS) : Prop where
  co : Keep w0 base C F most pat s1 wr
  row : kIn.R 41 wr w.heap.size (fun k => w.heap.size ≤ k) v acc
  fr : Fr (okC C F) w wr
  one : acc ++ (s1.all most).1 = (s.all most).1
  two : (s1.all most).2 = (s.all most).2
set_option maxRecDepth 100000 in
set_option maxHeartbeats 4000000 in
theorem all_any {w0 w : World} {base C F : Nat} {most pat : Int} {s : CoS} (hg : Gl w0) (h : Keep w0 base C F most pat s w) (hb0 : w0.heap.size ≤ base) (n : Int) (hn : (s.left : Int) ≤ n) (hsm : s.left ≤ 1000000) (hn2 : n ≤ 1000000) :
    Calls Tryz.prog 15 #[.pointer (some ⟨C, 0, none⟩), .int .i64 n] w fun e w' => ∃ v, e = .returned (.tuple #[v, .bool true]) ∧ kIn.R 41 w' w.heap.size (fun k => w.heap.size ≤ k) v (s.all most).1 ∧ Keep w0 base C F most pat (s.all most).2 w' ∧ Fr (okC C F) w w' := by
  have HG := Aside0.mk hg
  have HCF := Aside0.mk (show C < w.heap.size ∧ F < w.heap.size from ⟨blk_lt h.co.self, h.co.fr.lt⟩)
  have HA := Aside0.mk (show AllAt w0 w base C F most pat s w (.slice none 0 0) [] s from ⟨h, Kd.R_nil _ _ _ _ _, Fr.refl _ _, rfl, rfl⟩)
  have HB0 := Aside0.mk hb0
  have HWS := Aside0.mk (show w0.heap.size ≤ w.heap.size from h.bel.size)
  clear h hg hb0
  go_enter Tryz.func15, Tryz.ntmps15
  go_upto_region 2 with fail
  go_wp2_with fail
  go_loopg [6, 7] (s.left + 1) (fun q v i wr => ∃ (k : Nat) (acc : List InV) (s1 : CoS) (v0 : Value), v0 = v ∧ i = .int .i64 (k : Int) ∧ acc.length = k ∧ k + s1.left ≤ s.left ∧ s1.left < q ∧ Aside0 (AllAt w0 w base C F most pat s wr v0 acc s1))
  case atStart => exact ⟨0, [], s, _, rfl, rfl, rfl, by omega, by omega, HA⟩
  case round =>
    obtain ⟨k, acc, s1, v, rfl, rfl, hk, hks, hq, HR⟩ := hrel
    clear HA
    have t0 : decide ((k : Int) ≤ n) = true := decide_eq_true (by omega)
    have hlt : s1.fr.b.length ≤ 1099511627770 ∨ s1.st = 2 := by
      by_cases h2 : s1.st = 2
      · exact .inr h2
      · left; have hl : s1.left = s1.fr.b.length + 1 := by unfold CoS.left; rw [if_neg h2]
        omega
    obtain ⟨r, hr⟩ : ∃ r, s1.next most = r := ⟨_, rfl⟩
    have HN := Aside0.mk (show Calls Tryz.prog 18 #[.pointer (some ⟨C, 0, none⟩)] wr fun e w' => ∃ cs : List Value, e = .returned (.tuple #[.agg cs.toArray, .bool r.1.ok]) ∧ kIn.M w' wr.heap.size (fun _ => True) r.1.i cs ∧ Keep w0 base C F most pat r.2 w' ∧ Fr (okC C F) wr w' by
      rcases hlt with h | h
      · exact keep_next HG.out HR.out.co HB0.out r hr h
      · subst hr
        rw [CoS.next_over most h]
        exact (co_over HR.out.co.co h).mono fun e w' ⟨cs, h1, h2, h3, h4⟩ => ⟨cs, h1, h2, HR.out.co.call HB0.out h3 h4, h4⟩)
    have hfo := HR.out.co.co.fr.ok
    have HRR := Aside0.mk hr
    have HKK := Aside0.mk (And.intro hk (And.intro hks hq))
    clear hlt
    go_upto_region 6 with (first
      | (go_at_call 18; (with_reducible refine (HN.out).mono ?_); rintro e w4 ⟨cs4, rfl, hM, hK, hF⟩; have HM4 := Aside0.mk (And.intro hM (in_open hM)); have HK4 := Aside0.mk hK; have HF4 := Aside0.mk hF; clear hM hK hF; dsimp only)
      | (refine wpList_store_row rfl 41 _ _ rfl w4.heap.size _ rfl rfl 41 _ (heap_alloc_new w4 (.cells inCells0 41)) HM4.out.2.2.2.2.2.2.2.1 HM4.out.2.2.2.2.2.2.2.2.1 HM4.out.2.2.2.2.2.2.2.2.2.1 ?_))
    obtain ⟨B, hB⟩ : ∃ B, B = w4.heap.size := ⟨_, rfl⟩
    obtain ⟨W5, hW5⟩ : ∃ W : World, W = (w4.alloc (.cells inCells0 41)).setRow w4.heap.size cs4.toArray := ⟨_, rfl⟩
    have hb5 : Below w4.heap.size w4 W5 := by rw [hW5]; exact setRow_below (below_alloc (Below.refl _ _) _) (Nat.le_refl _) _
    have HB5 := Aside0.mk (show W5.heap[B]? = some (.cells cs4.toArray 41 (0, 0)) by rw [hW5, hB]; exact setRow_block (heap_alloc_new w4 _))
    have HK5 := Aside0.mk (HK4.out.below hb5)
    have HM5 := Aside0.mk (Kd.M_below HM4.out.1 hb5)
    have HF5 := Aside0.mk (show Fr (okC C F) wr W5 from HF4.out.trans (Fr.of_below (fun _ => False) hb5) (fun _ _ e => e.elim))
    have HS5 := Aside0.mk (show w.heap.size ≤ W5.heap.size from Nat.le_trans HR.out.fr.size HF5.out.size)
    have HR5 := Aside0.mk (show kIn.R 41 W5 w.heap.size (fun k => w.heap.size ≤ k) v acc from Kd.R_step HR.out.row (fun k hk hlt => HF5.out.block k hlt (fun e => by have := HCF.out; rcases e with e | e <;> omega)))
    have HFw := Aside0.mk (show Fr (okC C F) w W5 from HR.out.fr.trans HF5.out (fun k _ e => e))
    have HIO := Aside0.mk HM4.out.2
    refine wp_wld (w2 := W5) (by rw [hW5]; rfl) ?_
    rw [← hB]
    clear hB hW5 hb5 HM4 HK4 HF4 HN
    cases hok : r.1.ok with
    | false =>
      have hal : s1.all most = ([], s1) := CoS.all_no (by rw [hr]; exact hok)
      have hst : r = (⟨noIn, false⟩, s1) := by rw [← hr]; exact CoS.next_stay most hfo (by rw [hr]; exact hok)
      have HF1 := Aside0.mk (show (s.all most).1 = acc by have := HR.out.one; rw [hal] at this; simpa using this.symm)
      have HF2 := Aside0.mk (show (s.all most).2 = s1 by have := HR.out.two; rw [hal] at this; exact this.symm)
      rw [hst] at HK5
      clear hr hal hst hok hk hks hq hfo
      go_wp2
      go_ret2
      exact ⟨v, rfl, by rw [HF1.out]; exact HR5.out, by rw [HF2.out]; exact HK5.out, HFw.out⟩
    | true =>
      have hal := CoS.all_ok (most := most) hfo (by rw [hr]; exact hok)
      have hlf := CoS.left_next most hfo (by rw [hr]; exact hok)
      rw [hr] at hal hlf
      obtain ⟨q1, rfl⟩ : ∃ q1, gk = q1 + 1 := ⟨gk - 1, by omega⟩
      have HAL := Aside0.mk hal
      have HLF := Aside0.mk hlf
      have hk6 : k ≤ 1000000 := by omega
      have ek : wrap64 ((k : Int) + 1) = (k : Int) + 1 := by unfold wrap64; omega
      clear hr hal hok hk hks hq hfo hlf
      go_wp2_with (first
        | (refine wpList_load_row rfl 41 _ rfl B rfl 41 _ (0, 0) _ HB5.out Tryz.underlying41 rfl HIO.out.2.2.2.2.2.2.1 ?_)
        | (refine wpList_buildOne rfl 28 41 _ rfl cs4 rfl (.agg inCells0) 28 352 Tryz.underlying28 infoIn rfl (by have := HIO.out.2.2.2.2.2.2.2.2.2; simpa using this) (by decide) (by decide) ?_)
        | (at_builtin; go_loud (refine Kd.R_append kIn (w0 := W5) (W := W5) w.heap.size rfl (.tmp 23) (.tmp 25) 28 41 (.agg inCells0) 352 rfl Tryz.underlying28 infoIn rfl (by decide) (by omega) _ acc r.1.i cs4 (fun k => w.heap.size ≤ k) (fun k => wr.heap.size ≤ k) rfl rfl (kIn.M_lower HR.out.fr.size (kIn.M_mono (fun k hk => hk.2.1) (kIn.M_bound HM5.out))) ?okp ?fresh HR5.out (Below.refl _ _) HS5.out ?hl ?_)))
      case okp => exact fun k hk => ⟨Nat.le_trans HR.out.fr.size hk, fun e => by obtain ⟨_, ho⟩ := Kd.R_own HR.out.row; have := own_lt ho k e.symm; omega⟩
      case fresh => exact fun k hk => Nat.le_trans HS5.out hk
      case hl => have := HKK.out.1; omega
      intro v1 w6 hR hb6 hg6 hat6
      have HR6 := Aside0.mk hR
      have HG6 := Aside0.mk (show ∀ k, k < w.heap.size → w6.heap[k]? = W5.heap[k]? from fun k hk => hg6.block k (Nat.lt_of_lt_of_le hk HS5.out) (fun e => by have := HR5.out.1 k e.symm; omega))
      have HA6 := Aside0.mk (show AllAt w0 w base C F most pat s w6 v1 (acc ++ [r.1.i]) r.2 from by
        have hb := hg6.block
        have hlo : ∀ k, k < w.heap.size → w6.heap[k]? = W5.heap[k]? := HG6.out
        have hfr : Fr (okC C F) w w6 := ⟨hb6.os.trans HFw.out.os, hb6.tape.trans HFw.out.tape, hb6.output.trans HFw.out.output, Nat.le_trans HS5.out hg6.size, fun k hk hn => (hlo k hk).trans (HFw.out.block k hk hn)⟩
        refine ⟨⟨?_, ?_⟩, hR, hfr, ?_, ?_⟩
        · exact HK5.out.co.frm (ok := fun k => some k = v.ownBlock) ⟨hg6.os, hg6.tape, hg6.output, hg6.size, fun k hk hn => hg6.block k hk hn⟩ (fun k hk e => by
            obtain ⟨_, ho⟩ := Kd.R_own HR5.out
            obtain ⟨cells, hc⟩ := own_typed ho k e.symm
            exact ⟨cells, _, hc, by decide, by decide, by decide, by decide⟩)
        · exact HK5.out.bel.trans (hb6.mono HWS.out)
        · have h1 := HR.out.one; rw [HAL.out] at h1; rw [List.append_assoc]; exact h1
        · have h2 := HR.out.two; rw [HAL.out] at h2; exact h2)
      clear hR hb6 hg6 hat6
      go_wp2_with fail
      go_roundg q1
      case measure => exact Nat.lt_succ_self _
      case rel => exact ⟨k + 1, acc ++ [r.1.i], r.2, _, rfl, by rw [show (((k + 1 : Nat) : Int)) = (k : Int) + 1 by omega], by rw [List.length_append, HKK.out.1]; rfl, by have := HKK.out; have := HLF.out; omega, by have := HKK.out; have := HLF.out; omega, HA6⟩
end Go.Proofs.YthlbcgaegaoanaaGreatDoor.Cr

namespace Go.Proofs.YthlbcgaegaoanaaGreatDoor.Cr
open Go Go.RowKit Go.Proofs.YthlbcgaegaoanaaGreatDoorW.PrintWords Go.Proofs.YthlbcgaegaoanaaGreatDoorW.PrintLast Go.Proofs.YthlbcgaegaoanaaGreatDoorW.PrintMore Go.Proofs.YthlbcgaegaoanaaGreatDoor.Kinds Go.Proofs.YthlbcgaegaoanaaGreatDoor.Utf Go.Proofs.YthlbcgaegaoanaaGreatDoor.Chk Go.Proofs.YthlbcgaegaoanaaGreatDoor.Rdr
set_option linter.unusedVariables false
set_option linter.unusedSimpArgs false
theorem own_C {w : World} {base : Nat} {v : Value} {xs : List Int} (h : w.ownsRow base 5 1 v xs.length (nums .u8 xs)) : ∃ A c, v = .slice A xs.length c ∧ (Kd.int .u8).C w A xs.length xs := by
  obtain ⟨A, c, he, _, hc⟩ := Kd.R_reads (show (Kd.int .u8).R 5 w base (fun _ => True) v xs from Kd.R_of_own h (fun _ _ => trivial))
  exact ⟨A, c, he, hc⟩
theorem in_cells {W w0 : World} {I base : Nat} {ok : Nat → Prop} {i : InV} {cs : List Value} (h : kIn.M w0 base ok i cs) (hI : W.heap[I]? = some (.cells cs.toArray 41 (0, 0))) :
    W.cell? ⟨I, 0, none⟩ = some (.int .i64 i.what) ∧ W.cell? ⟨I, 1, none⟩ = some (.int .i64 i.p.kind) ∧ W.cell? ⟨I, 26, none⟩ = some (.int .i64 i.code) ∧ W.cell? ⟨I, 27, none⟩ = some (.int .i64 i.err) := by
  have h2 := in_open h
  exact ⟨(blk_cell hI 0).trans h2.1, (blk_cell hI 1).trans h2.2.1, (blk_cell hI 26).trans h2.2.2.2.2.1, (blk_cell hI 27).trans h2.2.2.2.2.2.1⟩
theorem new_left (b : List Int) : (CoS.new.push b).left = b.length + 1 := by
  unfold CoS.left CoS.push CoS.new FrS.put FrS.new
  simp
theorem new_ok {b : List Int} (h : Bytes b) : (CoS.new.push b).fr.Ok := CoS.push_ok FrS.Ok.new h
theorem CoS.all_len {most : Int} : ∀ (k : Nat) {s : CoS}, s.left ≤ k → s.fr.Ok → (s.all most).1.length ≤ s.left := by
  intro k
  induction k with
  | zero =>
    intro s hk h
    have hn : (s.next most).1.ok = false := by
      cases e : (s.next most).1.ok with
      | false => rfl
      | true => have := CoS.left_next most h e; omega
    rw [CoS.all_no hn]; simp
  | succ k ih =>
    intro s hk h
    cases e : (s.next most).1.ok with
    | false => rw [CoS.all_no e]; simp
    | true =>
      have hs := CoS.left_next most h e
      rw [CoS.all_ok h e]
      have := ih (s := (s.next most).2) (by omega) (CoS.next_ok most h)
      simp only [List.length_cons]; omega
set_option maxRecDepth 100000 in
set_option maxHeartbeats 4000000 in
theorem order_any {w : World} (hg : Gl w) (most : Int) (b : List Int) (A : Option Addr) (n c : Nat) (hn : n = b.length) (hr : (Kd.int .u8).C w A b.length b) (hb : Bytes b) :
    Calls Tryz.prog 4 #[.int .i64 most, .slice A n c] w fun e w' => e = .returned (.bool true) ∧ Below w.heap.size w w' := by
  subst hn
  have HG := Aside0.mk hg
  have HRB := Aside0.mk hr
  have HBB := Aside0.mk hb
  clear hg hr hb
  go_enter Tryz.func4, Tryz.ntmps4
  go_upto_region 3 with (go_at_call 12; (with_reducible refine (known_any HG.out).mono ?_); rintro e w1 ⟨rfl, hB⟩; have HB := Aside0.mk hB; clear hB)
  by_cases hlen : 65536 < b.length
  · have t1 : decide (65536 < (b.length : Int)) = true := decide_eq_true (by omega)
    clear hlen
    go_wp2
    go_ret
    exact ⟨rfl, HB.out⟩
  · have t1 : decide (65536 < (b.length : Int)) = false := decide_eq_false (by omega)
    have HL := Aside0.mk (show b.length ≤ 65536 by omega)
    clear hlen
    go_upto_region 8 with (go_at_call 13; refine (keep_new most 0 _).mono ?_; rintro e w2 ⟨C, F, rfl, hK⟩; have HK2 := Aside0.mk hK; clear hK)
    go_wp2_with (at_builtin; go_loud (refine print_append_row (w0 := w2) w2.heap.size rfl (.const (.slice none 0 0)) (.tmp 21) 22 5 .u8 1 rfl Tryz.underlying22 infoU8 (by omega) (.slice none 0 0) [] b A b.length c rfl rfl (own_nil _ _ _ _) (Kd.reads_of_C (d := (0 : Int)) (Kd.C_below (Kd.C_below HRB.out HB.out) HK2.out.bel)) (Below.refl _ _) (Nat.le_refl _) (by have := HL.out; simp; omega) ?_))
    intro v1 w3 hown hb3 hg3 hat3
    obtain ⟨A3, c3, rfl, hC3⟩ := own_C hown
    have HC3 := Aside0.mk hC3
    have HK3 := Aside0.mk (HK2.out.below hb3)
    clear hown hb3 hg3 hat3 hC3
    have hn1 : wrap64 ((b.length : Int) + 1) = (b.length : Int) + 1 := by have := HL.out; unfold wrap64; omega
    go_upto_region 9 with (go_at_call 14; refine (keep_push HK3.out (Nat.le_refl _) b _ _ _ rfl HC3.out HBB.out (by have := HL.out; show 0 + b.length ≤ _; omega) _ rfl).mono ?_; rintro e w4 ⟨rfl, hK, _⟩; have HK4 := Aside0.mk hK; clear hK)
    obtain ⟨s, hs⟩ : ∃ s, s = CoS.new.push b := ⟨_, rfl⟩
    obtain ⟨l, hl⟩ : ∃ l, l = (s.all most).1 := ⟨_, rfl⟩
    obtain ⟨s2, hs2⟩ : ∃ s2, s2 = (s.all most).2 := ⟨_, rfl⟩
    have hord := CoS.order (most := most) s.left 0 (Nat.le_refl _) (by rw [hs]; exact new_ok HBB.out) (by rw [hs]; exact .inr rfl)
    rw [← hl, ← hs2] at hord
    have hll : l.length ≤ 65537 := by
      have := CoS.all_len (most := most) s.left (Nat.le_refl s.left) (by rw [hs]; exact new_ok HBB.out)
      rw [hs, new_left] at this
      have := HL.out
      rw [hl, hs]; omega
    have HORD := Aside0.mk hord
    have HLL := Aside0.mk hll
    have HALL := Aside0.mk (show Calls Tryz.prog 15 #[.pointer (some ⟨C, 0, none⟩), .int .i64 ((b.length : Int) + 1)] w4 fun e w' => ∃ v, e = .returned (.tuple #[v, .bool true]) ∧ kIn.R 41 w' w4.heap.size (fun k => w4.heap.size ≤ k) v l ∧ Keep w1 w1.heap.size C F most (max 0 0) s2 w' ∧ Fr (okC C F) w4 w' by
      rw [hl, hs2]
      have h4 := HK4.out
      rw [← hs] at h4
      have hb := HL.out
      exact all_any (HG.out.below HB.out HG.out.sz HB.out.size) h4 (Nat.le_refl _) _ (by rw [hs, new_left]; omega) (by rw [hs, new_left]; omega) (by omega))
    clear hord hll hs hl hs2
    go_upto_region 12 with (go_at_call 15; (with_reducible refine (HALL.out).mono ?_); rintro e w5 ⟨v, rfl, hR, hK, _⟩; have HR5 := Aside0.mk hR; have HK5 := Aside0.mk hK; clear hR hK; dsimp only)
    obtain ⟨A5, c5, hv5⟩ := Kd.R_slice HR5.out
    subst hv5
    clear hn1
    go_wp2_with fail
    go_loopg [8] l.length (fun q i wr => ∃ k : Nat, k + q = l.length ∧ i = .int .i64 (k : Int) ∧ Aside0 (Below w5.heap.size w5 wr))
    case atStart => exact ⟨0, by omega, rfl, Aside0.mk (Below.refl _ _)⟩
    case round =>
      obtain ⟨k, hkq, rfl, HBR⟩ := hrel
      rcases Nat.lt_or_ge k l.length with hk | hk
      · have t0 : decide ((k : Int) < (l.length : Int)) = true := decide_eq_true (by omega)
        have hkl := HLL.out
        have ek : wrap64 ((k : Int) + 1) = (k : Int) + 1 := by unfold wrap64; omega
        have el : wrap64 ((l.length : Int) - 1) = (l.length : Int) - 1 := by unfold wrap64; omega
        obtain ⟨q1, rfl⟩ : ∃ q1, gk = q1 + 1 := ⟨gk - 1, by omega⟩
        have hRr := Kd.R_below HR5.out HBR.out
        obtain ⟨g1, n1', hx1, _⟩ := Kd.R_form hRr (by omega)
        injection hx1 with a1 a2 a3
        subst a1
        first | subst a2 | subst a3
        obtain ⟨cs, hcl, hM, hc, _⟩ := Kd.R_elem hRr noIn (k : Int) (by omega) (by omega)
        simp only [Int.toNat_natCast] at hM hc
        obtain ⟨x, hx⟩ : ∃ x, x = l.getD k noIn := ⟨_, rfl⟩
        rw [← hx] at hM
        have hxe : l[k]? = some x := by rw [hx, List.getD_eq_getElem?_getD, List.getElem?_eq_getElem hk]; rfl
        have hO := HORD.out k x hxe
        rw [Nat.zero_add] at hO
        have HM := Aside0.mk hM
        have HIO := Aside0.mk (in_open hM)
        have HC := Aside0.mk (show wr.rangeAt g1 (k * 28) cs from hc)
        have HLN := Aside0.mk (show (Tryz.prog.info? 41).map (·.size) = some cs.length by rw [show cs.length = 28 from hcl]; exact inSize)
        have HOO := Aside0.mk hO
        have HKQ := Aside0.mk hkq
        have HKB := Aside0.mk hkl
        have hki : (k : Int) < (l.length : Int) := by omega
        have hk0 : (0 : Int) ≤ (k : Int) := by omega
        clear hRr hcl hM hc hx hxe hO hkq hkl hk
        go_upto_region 16 with (first
          | (refine wpList_load_mid rfl 41 (.tmp 42) rfl g1 (k * 28) rfl cs _ HC.out Tryz.underlying41 rfl HLN.out ?_)
          | (refine wpList_store_row rfl 41 _ _ rfl wr.heap.size _ rfl rfl 41 _ (heap_alloc_new wr (.cells inCells0 41)) HIO.out.2.2.2.2.2.2.1 HIO.out.2.2.2.2.2.2.2.1 HIO.out.2.2.2.2.2.2.2.2.1 ?_))
        obtain ⟨B, hB⟩ : ∃ B, B = wr.heap.size := ⟨_, rfl⟩
        obtain ⟨W5, hW5⟩ : ∃ W : World, W = (wr.alloc (.cells inCells0 41)).setRow wr.heap.size cs.toArray := ⟨_, rfl⟩
        have hb5 : Below wr.heap.size wr W5 := by rw [hW5]; exact setRow_below (below_alloc (Below.refl _ _) _) (Nat.le_refl _) _
        have hB5 : W5.heap[B]? = some (.cells cs.toArray 41 (0, 0)) := by rw [hW5, hB]; exact setRow_block (heap_alloc_new wr _)
        obtain ⟨b0, b1, b26, _⟩ := in_cells HM.out hB5
        have HB5 := Aside0.mk (HBR.out.trans (hb5.mono HBR.out.size))
        have HOV := Aside0.mk (HK5.out.below HB5.out)
        refine wp_wld (w2 := W5) (by rw [hW5]; rfl) ?_
        rw [← hB]
        clear hB hW5 hb5 hB5 HC HM HIO HLN
        have hO := HOO.out
        obtain ⟨o1, o2, o3, o4, o5, o6, o7, o8, o9⟩ := hO
        have t21 : (x.p.kind == 2) = false := beq_eq_false_iff_ne.2 o6
        have t22 : (x.p.kind == 9) = false := beq_eq_false_iff_ne.2 o7
        have t23 : (x.p.kind == 11) = false := beq_eq_false_iff_ne.2 o8
        have t24 : (x.p.kind == 13) = false := beq_eq_false_iff_ne.2 o9
        have tr1 : decide (x.what < 1) = false := decide_eq_false (by omega)
        have tr2 : decide (3 < x.what) = false := decide_eq_false (by omega)
        have hfin : ∀ (h : x.what ≠ 1 ∨ x.p.kind = 14), decide ((k : Int) < (l.length : Int) - 1) = false ∧ (s2.st == 2) = true := fun h => by
          have := o3 h
          have h1 : k + 1 = l.length := by simpa using this.1
          exact ⟨decide_eq_false (by omega), this.2⟩
        have HKQ2 := HKQ
        by_cases w1' : x.what = 1
        · have tw1 : (x.what != 1) = false := by simp [w1']
          have tw1' : (x.what == 1) = true := by simp [w1']
          have tw2 : (x.what == 2) = false := by simp [w1']
          obtain ⟨bb, hbb⟩ : ∃ bb : Bool, bb = (x.p.kind == 1) := ⟨_, rfl⟩
          have tk1 := hbb.symm
          have tk0 : ((k : Int) == 0) = bb := by
            rw [hbb]
            by_cases e : k = 0
            · have := (o4 w1').1 e; simp [e, this]
            · have : x.p.kind ≠ 1 := fun h => e ((o4 w1').2 h)
              rw [beq_eq_false_iff_ne.2 this]; simp [e]
          have tq : (bb != bb) = false := by cases bb <;> rfl
          by_cases k14 : x.p.kind = 14
          · have tk14 : (x.p.kind == 14) = true := by simp [k14]
            obtain ⟨tl, tov⟩ := hfin (.inr k14)
            clear o1 o2 o3 o4 o5 o6 o7 o8 o9 hfin w1' k14 hbb hki hk0
            go_wp2_with (first
              | (go_at_call 17; (with_reducible refine (keep_over HOV.out true tov).mono ?_); rintro e w2 ⟨rfl, rfl⟩))
            go_roundg q1
            case measure => exact Nat.lt_succ_self _
            case rel => exact ⟨k + 1, by have := HKQ.out; omega, by rw [show (((k + 1 : Nat) : Int)) = (k : Int) + 1 by omega]; try rw [ek], HB5⟩
          · have tk14 : (x.p.kind == 14) = false := by simp [k14]
            clear o1 o2 o3 o4 o5 o6 o7 o8 o9 hfin w1' k14 hbb hki hk0
            go_wp2
            go_roundg q1
            case measure => exact Nat.lt_succ_self _
            case rel => exact ⟨k + 1, by have := HKQ.out; omega, by rw [show (((k + 1 : Nat) : Int)) = (k : Int) + 1 by omega]; try rw [ek], HB5⟩
        · have tw1 : (x.what != 1) = true := by simp [w1']
          have tw1' : (x.what == 1) = false := by simp [w1']
          obtain ⟨tl, tov⟩ := hfin (.inl w1')
          by_cases w2' : x.what = 2
          · have tw2 : (x.what == 2) = true := by simp [w2']
            have tk0 : decide (0 < (k : Int)) = false := decide_eq_false (by have := (o5 w2').1; omega)
            have tk0n : decide (0 < k) = false := decide_eq_false (by have := (o5 w2').1; omega)
            have tcd : (x.code != 1) = false := by simp [(o5 w2').2]
            clear o1 o2 o3 o4 o5 o6 o7 o8 o9 hfin w1' w2' hki hk0
            go_wp2_with (first
              | (go_at_call 17; (with_reducible refine (keep_over HOV.out true tov).mono ?_); rintro e w2 ⟨rfl, rfl⟩))
            go_roundg q1
            case measure => exact Nat.lt_succ_self _
            case rel => exact ⟨k + 1, by have := HKQ.out; omega, by rw [show (((k + 1 : Nat) : Int)) = (k : Int) + 1 by omega]; try rw [ek], HB5⟩
          · have tw2 : (x.what == 2) = false := by simp [w2']
            clear o1 o2 o3 o4 o5 o6 o7 o8 o9 hfin w1' w2' hki hk0
            go_wp2_with (first
              | (go_at_call 17; (with_reducible refine (keep_over HOV.out true tov).mono ?_); rintro e w2 ⟨rfl, rfl⟩))
            go_roundg q1
            case measure => exact Nat.lt_succ_self _
            case rel => exact ⟨k + 1, by have := HKQ.out; omega, by rw [show (((k + 1 : Nat) : Int)) = (k : Int) + 1 by omega]; try rw [ek], HB5⟩
      · have t0 : decide ((k : Int) < (l.length : Int)) = false := decide_eq_false (by omega)
        have t0n : decide (k < l.length) = false := decide_eq_false (by omega)
        clear hkq hk
        go_wp2
        go_ret
        exact ⟨rfl, HB.out.trans ((HK5.out.bel.mono HB.out.size).trans (HBR.out.mono (Nat.le_trans HB.out.size HK5.out.bel.size)))⟩
end Go.Proofs.YthlbcgaegaoanaaGreatDoor.Cr

/- crierroom's Count, and crierlaw3.few: a packet of few parts. No statement of the program. crierroom.Count's Message and Packet; crierlaw3.few. Printed by wip/gen_few2.py. No statement of the program. packet.Length, codec.Size; what few lets in. No statement of the program. CodecBack's walk: written and read again. No statement of the program. A packet handed in laid open. No statement of the program. -/
import Derived.Test.YthlbcgaegaoanaaGreatDoorMTold
import Derived.Test.YthlbcgaegaoanaaGreatDoorMFilt
import Derived.Test.YthlbcgaegaoanaaGreatDoorMFirm
import Derived.Test.YthlbcgaegaoanaaGreatDoorMFormL
import Derived.Test.YthlbcgaegaoanaaGreatDoorMLaid
namespace Go.Proofs.YthlbcgaegaoanaaGreatDoor.Cr
open Go Go.RowKit Go.Proofs.YthlbcgaegaoanaaGreatDoorW.PrintWords Go.Proofs.YthlbcgaegaoanaaGreatDoorW.PrintLast Go.Proofs.YthlbcgaegaoanaaGreatDoorW.PrintMore Go.Proofs.YthlbcgaegaoanaaGreatDoor.Kinds Go.Proofs.YthlbcgaegaoanaaGreatDoor.Utf Go.Proofs.YthlbcgaegaoanaaGreatDoor.Chk Go.Proofs.YthlbcgaegaoanaaGreatDoor.Rdr
set_option linter.unusedVariables false
set_option linter.unusedSimpArgs false
def addP (v n : Int) : Int := if 0 ≤ v then v - n else v
def CtIs (K : Nat) (v : Int) (w : World) : Prop := w.heap[K]? = some (.cells #[.int .i64 v] 134 (0, 0)) ∧ -9223372036854775808 ≤ v ∧ v ≤ 1000000
theorem CtIs.below {K : Nat} {v : Int} {w w1 : World} (h : CtIs K v w) (hb : Below w.heap.size w w1) : CtIs K v w1 := ⟨(hb.block _ (blk_lt h.1)).trans h.1, h.2⟩
structure CtTo (K : Nat) (w : World) (v : Int) (w1 : World) : Prop where
  ct : CtIs K v w1
  bel : Below K w w1
  fr : Fr (fun k => k = K) w w1
theorem CtTo.trans {K : Nat} {w w1 w2 : World} {v v2 : Int} (h : CtTo K w v w1) (h2 : CtTo K w1 v2 w2) : CtTo K w v2 w2 := ⟨h2.ct, h.bel.trans h2.bel, h.fr.trans h2.fr (fun _ _ e => e)⟩
theorem CtTo.refl {K : Nat} {w : World} {v : Int} (h : CtIs K v w) : CtTo K w v w := ⟨h, Below.refl _ _, Fr.refl _ _⟩
theorem cok_any {K : Nat} {v : Int} {w : World} (h : CtIs K v w) : Calls Tryz.prog 39 #[.pointer (some ⟨K, 0, none⟩)] w fun e w' => e = .returned (.bool (decide (0 ≤ v))) ∧ w = w' := by
  have x0 : w.cell? ⟨K, 0, none⟩ = some (.int .i64 v) := blk_cell h.1 0
  clear h
  go_enter Tryz.func39, Tryz.ntmps39
  go_wp2
  go_ret
  exact ⟨rfl, rfl⟩
theorem cadd_any {K : Nat} {v : Int} {w : World} (h : CtIs K v w) (n : Int) (h0 : 0 ≤ n) (h1 : n ≤ 9223372036854775807) : Calls Tryz.prog 117 #[.pointer (some ⟨K, 0, none⟩), .int .i64 n] w fun e w' => e = .returned (.bool (decide (0 ≤ addP v n))) ∧ CtTo K w (addP v n) w' := by
  have x0 : w.cell? ⟨K, 0, none⟩ = some (.int .i64 v) := blk_cell h.1 0
  have xf : w.frozen? ⟨K, 0, none⟩ = false := blk_frozen h.1 0
  have HK := Aside0.mk h
  have hr := h.2
  clear h
  by_cases hv : 0 ≤ v
  · have HV := Aside0.mk hv
    have tv : decide (0 ≤ v) = true := decide_eq_true hv
    have tv2 : decide (v ≥ 0) = true := decide_eq_true hv
    have ew : wrap64 (v - n) = v - n := by unfold wrap64; omega
    have HS := Aside0.mk (show CtTo K w (addP v n) (w.setCell ⟨K, 0, none⟩ (.int .i64 (v - n))) from by
      unfold addP
      rw [if_pos hv]
      exact ⟨⟨blk_set HK.out.1 0 _, by omega, by omega⟩, (Below.refl K w).setCell (p := ⟨K, 0, none⟩) (Nat.le_refl _) _, (Fr.refl (fun k => k = K) w).setCell (p := ⟨K, 0, none⟩) (fun _ => rfl) _⟩)
    clear hr hv
    go_enter Tryz.func117, Tryz.ntmps117
    go_wp2
    all_goals
      go_ret
      exact ⟨by unfold addP; rw [if_pos HV.out, show decide (0 ≤ v - n) = decide (n ≤ v) from decide_eq_decide.2 (by omega)]; rfl, HS.out⟩
  · have HV := Aside0.mk hv
    have tv : decide (0 ≤ v) = false := decide_eq_false hv
    have tv2 : decide (v ≥ 0) = false := decide_eq_false hv
    have HS := Aside0.mk (show CtTo K w (addP v n) w from CtTo.refl (by unfold addP; rw [if_neg hv]; exact HK.out))
    clear hr
    go_enter Tryz.func117, Tryz.ntmps117
    go_wp2
    all_goals first
      | (exfalso; omega)
      | (go_ret; exact ⟨by unfold addP; rw [if_neg (by have := HV.out; omega), tv]; rfl, HS.out⟩)
def tadd (v n : Int) : Int := addP (addP v 1) n
theorem ctxt_any {K : Nat} {v : Int} {w : World} (h : CtIs K v w) (t : ByteArray) (ht : t.size ≤ 9223372036854775807) : Calls Tryz.prog 113 #[.pointer (some ⟨K, 0, none⟩), .string t] w fun e w' => e = .returned (.tuple #[]) ∧ CtTo K w (tadd v t.size) w' := by
  have H := Aside0.mk h
  clear h
  go_enter Tryz.func113, Tryz.ntmps113
  go_wp2_with (first
    | (have _ := H1.out; go_at_call 117; (with_reducible refine (cadd_any H1.out.ct (t.size : Int) (by omega) (by omega)).mono ?_); rintro e w2 ⟨rfl, hC⟩; have H2 := Aside0.mk hC; clear hC)
    | (go_at_call 117; (with_reducible refine (cadd_any H.out 1 (by decide) (by decide)).mono ?_); rintro e w1 ⟨rfl, hC⟩; have H1 := Aside0.mk hC; clear hC))
  go_end0
  exact ⟨rfl, H1.out.trans H2.out⟩
theorem cbyt_any {K : Nat} {v : Int} {w : World} (h : CtIs K v w) (A : Option Addr) (n c : Nat) (hn : n ≤ 9223372036854775807) : Calls Tryz.prog 114 #[.pointer (some ⟨K, 0, none⟩), .slice A n c] w fun e w' => e = .returned (.tuple #[]) ∧ CtTo K w (tadd v n) w' := by
  have H := Aside0.mk h
  clear h
  go_enter Tryz.func114, Tryz.ntmps114
  go_wp2_with (first
    | (have _ := H1.out; go_at_call 117; (with_reducible refine (cadd_any H1.out.ct (n : Int) (by omega) (by omega)).mono ?_); rintro e w2 ⟨rfl, hC⟩; have H2 := Aside0.mk hC; clear hC)
    | (go_at_call 117; (with_reducible refine (cadd_any H.out 1 (by decide) (by decide)).mono ?_); rintro e w1 ⟨rfl, hC⟩; have H1 := Aside0.mk hC; clear hC))
  go_end0
  exact ⟨rfl, H1.out.trans H2.out⟩
theorem addP_neg {v : Int} (h : v < 0) (n : Int) : addP v n = v := by unfold addP; rw [if_neg (by omega)]
theorem tadd_neg {v : Int} (h : v < 0) (n : Int) : tadd v n = v := by unfold tadd; rw [addP_neg h, addP_neg h]
def asksC : Int → List AskV → Int
  | v, [] => v
  | v, a :: l => asksC (tadd v a.filter.size) l
def txtsC : Int → List ByteArray → Int
  | v, [] => v
  | v, a :: l => txtsC (tadd v a.size) l
theorem asksC_neg : ∀ (l : List AskV) {v : Int}, v < 0 → asksC v l = v
  | [], v, h => rfl
  | a :: l, v, h => by simp only [asksC]; rw [tadd_neg h]; exact asksC_neg l h
theorem txtsC_neg : ∀ (l : List ByteArray) {v : Int}, v < 0 → txtsC v l = v
  | [], v, h => rfl
  | a :: l, v, h => by simp only [txtsC]; rw [tadd_neg h]; exact txtsC_neg l h
set_option maxRecDepth 100000 in
theorem casks_any {K : Nat} {v : Int} {w : World} (h : CtIs K v w) (l : List AskV) (A : Option Addr) (n c : Nat) (hn : n = l.length) (hl : l.length ≤ 9223372036854775807) (hs : ∀ a ∈ l, a.filter.size ≤ 9223372036854775807) (hC : ∀ W, Below K w W → kAsk.C W A l.length l) :
    Calls Tryz.prog 116 #[.pointer (some ⟨K, 0, none⟩), .slice A n c] w fun e w' => e = .returned (.tuple #[]) ∧ CtTo K w (asksC v l) w' := by
  subst hn
  have HC := Aside0.mk hC
  have HS := Aside0.mk hs
  have HL := Aside0.mk hl
  have HV := Aside0.mk (show CtTo K w v w from CtTo.refl h)
  clear h hC hs hl
  go_enter Tryz.func116, Tryz.ntmps116
  go_wp2_with fail
  go_loopg [4] l.length (fun q i wr => ∃ (k : Nat) (v1 : Int), i = .int .i64 (k : Int) ∧ k + q = l.length ∧ Aside0 (CtTo K w v1 wr) ∧ Aside0 (asksC v1 (l.drop k) = asksC v l))
  case atStart => exact ⟨0, v, rfl, by omega, HV, ⟨rfl⟩⟩
  case round =>
    obtain ⟨k, v1, rfl, hkq, HR, HE⟩ := hrel
    clear HV
    rcases Nat.lt_or_ge k l.length with hk | hk
    · have t0 : decide ((k : Int) < (l.length : Int)) = true := decide_eq_true (by omega)
      have hkl := HL.out
      have ek : wrap64 ((k : Int) + 1) = (k : Int) + 1 := by unfold wrap64; omega
      obtain ⟨q1, rfl⟩ : ∃ q1, gk = q1 + 1 := ⟨gk - 1, by omega⟩
      by_cases hv : 0 ≤ v1
      · have tv : decide (0 ≤ v1) = true := decide_eq_true hv
        obtain ⟨ad1, hA1, c10, cx⟩ := ask_at (HC.out _ HR.out.bel) k hk hk
        subst hA1
        have HFS := Aside0.mk (HS.out l[k] (List.getElem_mem hk))
        have HE2 := Aside0.mk (show asksC (tadd v1 l[k].filter.size) (l.drop (k + 1)) = asksC v l by
          have := HE.out
          rw [List.drop_eq_getElem_cons hk] at this
          exact this)
        clear cx
        generalize l[k] = a at *
        have hlt : ((k : Int) < (l.length : Int)) := by omega
        have h0 : (0 : Int) ≤ (k : Int) := by omega
        have HKQ := Aside0.mk hkq
        clear hkq hk hkl hv
        go_wp2_with (first
          | (go_at_call 39; (with_reducible refine (cok_any HR.out.ct).mono ?_); rintro e w5 ⟨rfl, rfl⟩)
          | (go_at_call 113; (with_reducible refine (ctxt_any HR.out.ct a.filter HFS.out).mono ?_); rintro e w6 ⟨rfl, hC6⟩; have H6 := Aside0.mk (HR.out.trans hC6); clear hC6))
        go_roundg q1
        case measure => exact Nat.lt_succ_self _
        case rel => exact ⟨k + 1, _, by rw [show (((k + 1 : Nat) : Int)) = (k : Int) + 1 by omega]; try rw [ek], by have := HKQ.out; omega, H6, HE2⟩
      · have tv : decide (0 ≤ v1) = false := decide_eq_false hv
        have HF := Aside0.mk (show asksC v l = v1 by rw [← HE.out]; exact asksC_neg _ (by omega))
        have hlt : ((k : Int) < (l.length : Int)) := by omega
        have h0 : (0 : Int) ≤ (k : Int) := by omega
        clear hkq hkl hv
        go_wp2_with (go_at_call 39; (with_reducible refine (cok_any HR.out.ct).mono ?_); rintro e w5 ⟨rfl, rfl⟩)
        all_goals first
          | (exfalso; omega)
          | (go_end0; exact ⟨rfl, by rw [HF.out]; exact HR.out⟩)
    · have t0 : decide ((k : Int) < (l.length : Int)) = false := decide_eq_false (by omega)
      have t0n : decide (k < l.length) = false := decide_eq_false (by omega)
      have HF := Aside0.mk (show asksC v l = v1 by rw [← HE.out, List.drop_eq_nil_of_le hk]; rfl)
      clear hkq hk
      go_wp2
      go_end0
      exact ⟨rfl, by rw [HF.out]; exact HR.out⟩
set_option maxRecDepth 100000 in
theorem ctxts_any {K : Nat} {v : Int} {w : World} (h : CtIs K v w) (l : List ByteArray) (A : Option Addr) (n c : Nat) (hn : n = l.length) (hl : l.length ≤ 9223372036854775807) (hs : ∀ a ∈ l, a.size ≤ 9223372036854775807) (hC : ∀ W, Below K w W → Kd.string.C W A l.length l) :
    Calls Tryz.prog 118 #[.pointer (some ⟨K, 0, none⟩), .slice A n c] w fun e w' => e = .returned (.tuple #[]) ∧ CtTo K w (txtsC v l) w' := by
  subst hn
  have HC := Aside0.mk hC
  have HS := Aside0.mk hs
  have HL := Aside0.mk hl
  have HV := Aside0.mk (show CtTo K w v w from CtTo.refl h)
  clear h hC hs hl
  go_enter Tryz.func118, Tryz.ntmps118
  go_wp2_with fail
  go_loopg [4] l.length (fun q i wr => ∃ (k : Nat) (v1 : Int), i = .int .i64 (k : Int) ∧ k + q = l.length ∧ Aside0 (CtTo K w v1 wr) ∧ Aside0 (txtsC v1 (l.drop k) = txtsC v l))
  case atStart => exact ⟨0, v, rfl, by omega, HV, ⟨rfl⟩⟩
  case round =>
    obtain ⟨k, v1, rfl, hkq, HR, HE⟩ := hrel
    clear HV
    rcases Nat.lt_or_ge k l.length with hk | hk
    · have t0 : decide ((k : Int) < (l.length : Int)) = true := decide_eq_true (by omega)
      have hkl := HL.out
      have ek : wrap64 ((k : Int) + 1) = (k : Int) + 1 := by unfold wrap64; omega
      obtain ⟨q1, rfl⟩ : ∃ q1, gk = q1 + 1 := ⟨gk - 1, by omega⟩
      by_cases hv : 0 ≤ v1
      · have tv : decide (0 ≤ v1) = true := decide_eq_true hv
        have hCw := HC.out _ HR.out.bel
        obtain ⟨ad, hA1, hcell⟩ := Kd.at_string hCw (k : Int) (by omega) (by omega)
        subst hA1
        rw [Int.toNat_natCast] at hcell
        have hx : rdOf ByteArray.empty l (k : Int) = l[k] := by unfold rdOf; rw [Int.toNat_natCast, List.getD_eq_getElem?_getD, List.getElem?_eq_getElem hk]; rfl
        rw [hx] at hcell
        clear hx hCw
        have HFS := Aside0.mk (HS.out l[k] (List.getElem_mem hk))
        have HE2 := Aside0.mk (show txtsC (tadd v1 l[k].size) (l.drop (k + 1)) = txtsC v l by
          have := HE.out
          rw [List.drop_eq_getElem_cons hk] at this
          exact this)
        generalize l[k] = a at *
        have hlt : ((k : Int) < (l.length : Int)) := by omega
        have h0 : (0 : Int) ≤ (k : Int) := by omega
        have HKQ := Aside0.mk hkq
        clear hkq hk hkl hv
        go_wp2_with (first
          | (go_at_call 39; (with_reducible refine (cok_any HR.out.ct).mono ?_); rintro e w5 ⟨rfl, rfl⟩)
          | (go_at_call 113; (with_reducible refine (ctxt_any HR.out.ct a HFS.out).mono ?_); rintro e w6 ⟨rfl, hC6⟩; have H6 := Aside0.mk (HR.out.trans hC6); clear hC6))
        go_roundg q1
        case measure => exact Nat.lt_succ_self _
        case rel => exact ⟨k + 1, _, by rw [show (((k + 1 : Nat) : Int)) = (k : Int) + 1 by omega]; try rw [ek], by have := HKQ.out; omega, H6, HE2⟩
      · have tv : decide (0 ≤ v1) = false := decide_eq_false hv
        have HF := Aside0.mk (show txtsC v l = v1 by rw [← HE.out]; exact txtsC_neg _ (by omega))
        have hlt : ((k : Int) < (l.length : Int)) := by omega
        have h0 : (0 : Int) ≤ (k : Int) := by omega
        clear hkq hkl hv
        go_wp2_with (go_at_call 39; (with_reducible refine (cok_any HR.out.ct).mono ?_); rintro e w5 ⟨rfl, rfl⟩)
        all_goals first
          | (exfalso; omega)
          | (go_end0; exact ⟨rfl, by rw [HF.out]; exact HR.out⟩)
    · have t0 : decide ((k : Int) < (l.length : Int)) = false := decide_eq_false (by omega)
      have t0n : decide (k < l.length) = false := decide_eq_false (by omega)
      have HF := Aside0.mk (show txtsC v l = v1 by rw [← HE.out, List.drop_eq_nil_of_le hk]; rfl)
      clear hkq hk
      go_wp2
      go_end0
      exact ⟨rfl, by rw [HF.out]; exact HR.out⟩
theorem range4 {W : World} {Q o : Nat} {L : List Value} {a b c d : Value} (h : ∀ j, W.cell? ⟨Q, j, none⟩ = L[j]?) (h0 : L[o]? = some a) (h1 : L[o + 1]? = some b) (h2 : L[o + 2]? = some c) (h3 : L[o + 3]? = some d) : W.rangeAt Q o [a, b, c, d] := by
  intro j v hv
  rcases j with _ | _ | _ | _ | j
  · simp at hv; subst hv; exact (h _).trans h0
  · simp at hv; subst hv; exact (h _).trans h1
  · simp at hv; subst hv; exact (h _).trans h2
  · simp at hv; subst hv; exact (h _).trans h3
  · simp at hv
theorem many_any (n : Int) (w : World) (h0 : 0 ≤ n) (h1 : n ≤ 1000000) : Calls Tryz.prog 37 #[.int .i64 n] w fun e w' => e = .returned (.pointer (some ⟨w.heap.size, 0, none⟩)) ∧ CtIs w.heap.size n w' ∧ Below w.heap.size w w' := by
  have HR := Aside0.mk (And.intro h0 h1)
  go_enter Tryz.func37, Tryz.ntmps37
  go_wp2
  go_ret
  exact ⟨rfl, ⟨heap_alloc_new w _, by have := HR.out; omega, HR.out.2⟩, below_alloc (Below.refl _ _) _⟩
end Go.Proofs.YthlbcgaegaoanaaGreatDoor.Cr

namespace Go.Proofs.YthlbcgaegaoanaaGreatDoor.Cr
open Go Go.RowKit Go.Proofs.YthlbcgaegaoanaaGreatDoorW.PrintWords Go.Proofs.YthlbcgaegaoanaaGreatDoorW.PrintLast Go.Proofs.YthlbcgaegaoanaaGreatDoorW.PrintMore Go.Proofs.YthlbcgaegaoanaaGreatDoor.Kinds Go.Proofs.YthlbcgaegaoanaaGreatDoor.Utf Go.Proofs.YthlbcgaegaoanaaGreatDoor.Chk Go.Proofs.YthlbcgaegaoanaaGreatDoor.Rdr
set_option linter.unusedVariables false
set_option linter.unusedSimpArgs false
theorem CtTo.block {K : Nat} {w w1 : World} {v : Int} (h : CtTo K w v w1) {Q : Nat} {o : Obj} (hQ : w.heap[Q]? = some o) (hn : Q ≠ K) : w1.heap[Q]? = some o := (h.fr.block Q (blk_lt hQ) hn).trans hQ
def msgC (v : Int) (m : Msg) : Int := tadd (tadd v m.topic.size) m.payload.length
theorem cmsg_any {K : Nat} {v : Int} {w : World} (h : CtIs K v w) (m : Msg) (A : Option Addr) (n c : Nat) (hn : n = m.payload.length) (ht : m.topic.size ≤ 9223372036854775807) (hp : m.payload.length ≤ 9223372036854775807) :
    Calls Tryz.prog 115 #[.pointer (some ⟨K, 0, none⟩), .agg #[.string m.topic, .slice A n c, .int .i64 m.qos, .bool m.retain]] w fun e w' => e = .returned (.tuple #[]) ∧ CtTo K w (msgC v m) w' := by
  subst hn
  obtain ⟨t, d, q, r⟩ := m
  obtain ⟨X, hX⟩ : ∃ X : World, X = w.alloc (.cells #[.string t, .slice A d.length c, .int .i64 q, .bool r] 34) := ⟨_, rfl⟩
  have hk : K < w.heap.size := blk_lt h.1
  have hq : X.heap[w.heap.size]? = some (.cells #[.string t, .slice A d.length c, .int .i64 q, .bool r] 34 (0, 0)) := by rw [hX]; exact heap_alloc_new w _
  have hbx : Below w.heap.size w X := by rw [hX]; exact below_alloc (Below.refl _ _) _
  have HF := Aside0.mk (show CtTo K w v X from ⟨h.below hbx, hbx.mono (Nat.le_of_lt hk), Fr.of_below _ hbx⟩)
  have HQ := Aside0.mk hq
  have HNE := Aside0.mk (show w.heap.size ≠ K by omega)
  have HX := Aside0.mk hX
  have x0 : X.cell? ⟨w.heap.size, 0, none⟩ = some (.string t) := blk_cell hq 0
  have HT := Aside0.mk ht
  have HP := Aside0.mk hp
  clear h hX hbx hq hk ht hp
  go_enter Tryz.func115, Tryz.ntmps115
  go_upto_region 1 with fail
  refine wp_wld (w2 := X) (by rw [HX.out]) ?_
  clear HX
  go_wp2_with (first
    | (go_at_call 113; (with_reducible refine (ctxt_any HF.out.ct t HT.out).mono ?_); rintro e w1 ⟨rfl, hC⟩; have H1 := Aside0.mk (And.intro hC (hC.block HQ.out HNE.out)); have x1 : w1.cell? ⟨w.heap.size, 1, none⟩ = some (.slice A d.length c) := blk_cell H1.out.2 1; clear hC x0)
    | (go_at_call 114; (with_reducible refine (cbyt_any H1.out.1.ct A d.length c HP.out).mono ?_); rintro e w2 ⟨rfl, hC⟩; have H2 := Aside0.mk hC; clear hC x1))
  go_end0
  exact ⟨rfl, HF.out.trans (H1.out.1.trans H2.out)⟩
structure PFits (p : Pkt) : Prop where
  client : p.client.size ≤ 9223372036854775807
  user : p.user.size ≤ 9223372036854775807
  pass : p.pass.length ≤ 9223372036854775807
  wtop : p.will.topic.size ≤ 9223372036854775807
  wpay : p.will.payload.length ≤ 9223372036854775807
  mtop : p.msg.topic.size ≤ 9223372036854775807
  mpay : p.msg.payload.length ≤ 9223372036854775807
  asks : p.asks.length ≤ 9223372036854775807
  askN : ∀ a ∈ p.asks, a.filter.size ≤ 9223372036854775807
  codes : p.codes.length ≤ 9223372036854775807
  fils : p.filters.length ≤ 9223372036854775807
  filN : ∀ a ∈ p.filters, a.size ≤ 9223372036854775807
def pktC (v : Int) (p : Pkt) : Int := txtsC (addP (asksC (msgC (msgC (tadd (tadd (tadd v p.client.size) p.user.size) p.pass.length) p.will) p.msg) p.asks) p.codes.length) p.filters
set_option maxRecDepth 100000 in
set_option maxHeartbeats 4000000 in
theorem cpkt_any {K : Nat} {v : Int} {w : World} (h : CtIs K v w) (p : Pkt) (cs : List Value) (hf : PFits p) (hC : ∀ W, Below K w W → kPkt.K W p cs) :
    Calls Tryz.prog 77 #[.pointer (some ⟨K, 0, none⟩), .agg cs.toArray] w fun e w' => e = .returned (.tuple #[]) ∧ CtTo K w (pktC v p) w' := by
  obtain ⟨Aw, nw, Ap, np, Am, nm, Aa, na, Ac, nc, Af, nf, hcs, _⟩ := pkt_K (hC w (Below.refl _ _))
  have hk : K < w.heap.size := blk_lt h.1
  obtain ⟨X, hX⟩ : ∃ X : World, X = w.alloc (.cells cs.toArray 38) := ⟨_, rfl⟩
  have hbx : Below w.heap.size w X := by rw [hX]; exact below_alloc (Below.refl w.heap.size w) _
  have hq : X.heap[w.heap.size]? = some (.cells cs.toArray 38 (0, 0)) := by rw [hX]; exact heap_alloc_new w _
  have HF := Aside0.mk (show CtTo K w v X from ⟨h.below hbx, hbx.mono (Nat.le_of_lt hk), Fr.of_below _ hbx⟩)
  have HPF := Aside0.mk hf
  have HX := Aside0.mk hX
  have HNE := Aside0.mk (show w.heap.size ≠ K by omega)
  have HMS := Aside0.mk (show (Tryz.prog.info? 34).map (·.size) = some 4 from by kernel_rfl)
  -- what the packet's block holds at every world that is reached
  have HQ := Aside0.mk (show ∀ (u : Int) (W : World), CtTo K w u W → W.heap[w.heap.size]? = some (.cells cs.toArray 38 (0, 0)) → ∀ (u2 : Int) (W2 : World), CtTo K W u2 W2 → W2.heap[w.heap.size]? = some (.cells cs.toArray 38 (0, 0)) from fun u W _ hb u2 W2 h2 => h2.block hb (by omega))
  have HPC := Aside0.mk (show ∀ W : World, W.heap[w.heap.size]? = some (.cells cs.toArray 38 (0, 0)) → ∀ j, W.cell? ⟨w.heap.size, j, none⟩ = (pktCells p (.slice Aw p.will.payload.length nw) (.slice Ap p.pass.length np) (.slice Am p.msg.payload.length nm) (.slice Aa p.asks.length na) (.slice Ac p.codes.length nc) (.slice Af p.filters.length nf))[j]? from fun W hb => pkt_block hb hcs)
  have HKA := Aside0.mk (show ∀ W : World, Below K w W → kAsk.C W Aa p.asks.length p.asks ∧ Kd.string.C W Af p.filters.length p.filters from fun W hb => by
    obtain ⟨Aw', nw', Ap', np', Am', nm', Aa', na', Ac', nc', Af', nf', hcs', _, _, _, hA, _, hF⟩ := pkt_K (hC W hb)
    rw [hcs] at hcs'
    simp only [pktCells, List.cons.injEq, Value.slice.injEq] at hcs'
    obtain ⟨_, _, _, _, _, _, _, _, _, _, _, _, _, _, _, _, _, _, _, _, _, _, ⟨e1, _⟩, _, ⟨e2, _⟩, _⟩ := hcs'
    rw [e1, e2]
    exact ⟨hA.2, hF.2⟩)
  have H0 := Aside0.mk (And.intro HF.out hq)
  have x4 : X.cell? ⟨w.heap.size, 4, none⟩ = some (.string p.client) := HPC.out X hq 4
  clear h hX hbx hq hk hf hC hcs
  go_enter Tryz.func77, Tryz.ntmps77
  go_upto_region 1 with fail
  refine wp_wld (w2 := X) (by rw [HX.out]) ?_
  clear HX
  go_wp2_with (first
    | (refine wpList_load_midF (by rfl) 34 (.tmp 17) rfl w.heap.size 6 rfl [.string p.will.topic, .slice Aw p.will.payload.length nw, .int .i64 p.will.qos, .bool p.will.retain] _ hr8 Tryz.underlying34 rfl HMS.out ?_)
    | (refine wpList_load_midF (by rfl) 34 (.tmp 21) rfl w.heap.size 17 rfl [.string p.msg.topic, .slice Am p.msg.payload.length nm, .int .i64 p.msg.qos, .bool p.msg.retain] _ hr8 Tryz.underlying34 rfl HMS.out ?_)
    | (go_at_call 118; (with_reducible refine (ctxts_any H7.out.1.ct p.filters Af p.filters.length nf rfl HPF.out.fils HPF.out.filN (fun W hb => (HKA.out W (H7.out.1.bel.trans hb)).2)).mono ?_); rintro e w8 ⟨rfl, hC⟩; have H8 := Aside0.mk (And.intro (H7.out.1.trans hC) (HQ.out _ _ H7.out.1 H7.out.2 _ _ hC)); clear hC x8; skip)
    | (go_at_call 117; (with_reducible refine (cadd_any H6.out.1.ct (p.codes.length : Int) (by omega) (by have := HPF.out.codes; omega)).mono ?_); rintro e w7 ⟨rfl, hC⟩; have H7 := Aside0.mk (And.intro (H6.out.1.trans hC) (HQ.out _ _ H6.out.1 H6.out.2 _ _ hC)); clear hC x8; have x8 : w7.cell? ⟨w.heap.size, 24, none⟩ = some (.slice Af p.filters.length nf) := HPC.out _ H7.out.2 24)
    | (go_at_call 116; (with_reducible refine (casks_any H5.out.1.ct p.asks Aa p.asks.length na rfl HPF.out.asks HPF.out.askN (fun W hb => (HKA.out W (H5.out.1.bel.trans hb)).1)).mono ?_); rintro e w6 ⟨rfl, hC⟩; have H6 := Aside0.mk (And.intro (H5.out.1.trans hC) (HQ.out _ _ H5.out.1 H5.out.2 _ _ hC)); clear hC x8; have x8 : w6.cell? ⟨w.heap.size, 23, none⟩ = some (.slice Ac p.codes.length nc) := HPC.out _ H6.out.2 23)
    | (go_at_call 115; (with_reducible refine (cmsg_any H4.out.1.ct p.msg Am p.msg.payload.length nm rfl HPF.out.mtop HPF.out.mpay).mono ?_); rintro e w5 ⟨rfl, hC⟩; have H5 := Aside0.mk (And.intro (H4.out.1.trans hC) (HQ.out _ _ H4.out.1 H4.out.2 _ _ hC)); clear hC hr8; have x8 : w5.cell? ⟨w.heap.size, 22, none⟩ = some (.slice Aa p.asks.length na) := HPC.out _ H5.out.2 22)
    | (go_at_call 115; (with_reducible refine (cmsg_any H3.out.1.ct p.will Aw p.will.payload.length nw rfl HPF.out.wtop HPF.out.wpay).mono ?_); rintro e w4 ⟨rfl, hC⟩; have H4 := Aside0.mk (And.intro (H3.out.1.trans hC) (HQ.out _ _ H3.out.1 H3.out.2 _ _ hC)); clear hC hr8; have hr8 : w4.rangeAt w.heap.size 17 [.string p.msg.topic, .slice Am p.msg.payload.length nm, .int .i64 p.msg.qos, .bool p.msg.retain] := range4 (HPC.out _ H4.out.2) rfl rfl rfl rfl)
    | (go_at_call 114; (with_reducible refine (cbyt_any H2.out.1.ct Ap p.pass.length np HPF.out.pass).mono ?_); rintro e w3 ⟨rfl, hC⟩; have H3 := Aside0.mk (And.intro (H2.out.1.trans hC) (HQ.out _ _ H2.out.1 H2.out.2 _ _ hC)); clear hC x8; have hr8 : w3.rangeAt w.heap.size 6 [.string p.will.topic, .slice Aw p.will.payload.length nw, .int .i64 p.will.qos, .bool p.will.retain] := range4 (HPC.out _ H3.out.2) rfl rfl rfl rfl)
    | (go_at_call 113; (with_reducible refine (ctxt_any H1.out.1.ct p.user HPF.out.user).mono ?_); rintro e w2 ⟨rfl, hC⟩; have H2 := Aside0.mk (And.intro (H1.out.1.trans hC) (HQ.out _ _ H1.out.1 H1.out.2 _ _ hC)); clear hC x8; have x8 : w2.cell? ⟨w.heap.size, 13, none⟩ = some (.slice Ap p.pass.length np) := HPC.out _ H2.out.2 13)
    | (go_at_call 113; (with_reducible refine (ctxt_any H0.out.1.ct p.client HPF.out.client).mono ?_); rintro e w1 ⟨rfl, hC⟩; have H1 := Aside0.mk (And.intro (H0.out.1.trans hC) (HQ.out _ _ H0.out.1 H0.out.2 _ _ hC)); clear hC x4; have x8 : w1.cell? ⟨w.heap.size, 11, none⟩ = some (.string p.user) := HPC.out _ H1.out.2 11))
  go_end0
  exact ⟨rfl, H8.out.1⟩
set_option maxRecDepth 100000 in
theorem few3_any {w : World} (p : Pkt) (cs : List Value) (hk : kPkt.K w p cs) (hf : PFits p) :
    Calls Tryz.prog 33 #[.agg cs.toArray] w fun e w' => e = .returned (.bool (decide (0 ≤ pktC 150000 p))) ∧ Below w.heap.size w w' := by
  obtain ⟨X, hX⟩ : ∃ X : World, X = w.alloc (.cells cs.toArray 38) := ⟨_, rfl⟩
  have hbx : Below w.heap.size w X := by rw [hX]; exact below_alloc (Below.refl w.heap.size w) _
  have hq : X.heap[w.heap.size]? = some (.cells cs.toArray 38 (0, 0)) := by rw [hX]; exact heap_alloc_new w _
  have HBX := Aside0.mk hbx
  have HQ := Aside0.mk hq
  have HX := Aside0.mk hX
  have HK := Aside0.mk hk
  have HF := Aside0.mk hf
  have HSZ := Aside0.mk (pkt_szA hk)
  clear hX hbx hq hk hf
  go_enter Tryz.func33, Tryz.ntmps33
  go_upto_region 1 with fail
  refine wp_wld (w2 := X) (by rw [HX.out]) ?_
  clear HX
  go_upto_region 2 with (go_at_call 37; (with_reducible refine (many_any 150000 X (by decide) (by decide)).mono ?_); rintro e w1 ⟨rfl, hC, hB⟩; have H1 := Aside0.mk (And.intro hC (And.intro hB ((hB.block _ (blk_lt HQ.out)).trans HQ.out))); clear hC hB)
  go_wp2_with (first
    | (refine wpList_load_row rfl 38 _ rfl w.heap.size rfl 38 _ (0, 0) _ H1.out.2.2 Tryz.underlying38 rfl HSZ.out ?_)
    | (go_at_call 77; (with_reducible refine (cpkt_any H1.out.1 p cs HF.out (fun W hb => kPkt.K_below (HBX.out.trans ((H1.out.2.1.mono HBX.out.size).trans (hb.mono HBX.out.size))) HK.out)).mono ?_); rintro e w2 ⟨rfl, hC⟩; have H2 := Aside0.mk hC; clear hC)
    | (go_at_call 39; (with_reducible refine (cok_any H2.out.ct).mono ?_); rintro e w3 ⟨rfl, rfl⟩))
  go_ret
  exact ⟨rfl, HBX.out.trans ((H1.out.2.1.mono HBX.out.size).trans (H2.out.bel.mono HBX.out.size))⟩
end Go.Proofs.YthlbcgaegaoanaaGreatDoor.Cr

namespace Go.Proofs.YthlbcgaegaoanaaGreatDoor.Cr
open Go Go.RowKit Go.Proofs.YthlbcgaegaoanaaGreatDoorW.PrintWords Go.Proofs.YthlbcgaegaoanaaGreatDoorW.PrintLast Go.Proofs.YthlbcgaegaoanaaGreatDoorW.PrintMore Go.Proofs.YthlbcgaegaoanaaGreatDoor.Kinds Go.Proofs.YthlbcgaegaoanaaGreatDoor.Utf Go.Proofs.YthlbcgaegaoanaaGreatDoor.Chk Go.Proofs.YthlbcgaegaoanaaGreatDoor.Rdr
set_option linter.unusedVariables false
set_option linter.unusedSimpArgs false
theorem addP_le {v n : Int} (hn : 0 ≤ n) (h : 0 ≤ addP v n) : 0 ≤ v ∧ addP v n ≤ v - n := by unfold addP at *; split at h <;> simp_all <;> omega
theorem tadd_le {v n : Int} (hn : 0 ≤ n) (h : 0 ≤ tadd v n) : 0 ≤ v ∧ tadd v n ≤ v - n - 1 := by
  unfold tadd at *
  have h1 := addP_le hn h
  have h2 := addP_le (by decide) h1.1
  omega
theorem asksC_le : ∀ (l : List AskV) {v : Int}, 0 ≤ asksC v l → 0 ≤ v ∧ asksC v l ≤ v - l.length
  | [], v, h => ⟨h, by simp [asksC]⟩
  | a :: l, v, h => by
    simp only [asksC] at *
    have h1 := asksC_le l h
    have h2 := tadd_le (Int.natCast_nonneg _) h1.1
    simp only [List.length_cons]
    omega
theorem txtsC_le : ∀ (l : List ByteArray) {v : Int}, 0 ≤ txtsC v l → 0 ≤ v ∧ txtsC v l ≤ v - l.length
  | [], v, h => ⟨h, by simp [txtsC]⟩
  | a :: l, v, h => by
    simp only [txtsC] at *
    have h1 := txtsC_le l h
    have h2 := tadd_le (Int.natCast_nonneg _) h1.1
    simp only [List.length_cons]
    omega
theorem msgC_le {m : Msg} {v : Int} (h : 0 ≤ msgC v m) : 0 ≤ v ∧ msgC v m ≤ v - m.payload.length := by
  unfold msgC at *
  have h1 := tadd_le (Int.natCast_nonneg _) h
  have h2 := tadd_le (Int.natCast_nonneg _) h1.1
  omega
theorem few_sizes {p : Pkt} {v : Int} (h : 0 ≤ pktC v p) : (p.asks.length : Int) ≤ v ∧ (p.filters.length : Int) ≤ v ∧ (p.codes.length : Int) ≤ v ∧ (p.msg.payload.length : Int) ≤ v := by
  unfold pktC at h
  have h1 := txtsC_le _ h
  have h2 := addP_le (Int.natCast_nonneg _) h1.1
  have h3 := asksC_le _ h2.1
  have h4 := msgC_le h3.1
  have h5 := msgC_le h4.1
  have h6 := tadd_le (Int.natCast_nonneg _) h5.1
  have h7 := tadd_le (Int.natCast_nonneg _) h6.1
  have h8 := tadd_le (Int.natCast_nonneg _) h7.1
  omega
set_option maxRecDepth 100000 in
theorem Length_any {w : World} (hg : Gl w) (p : Pkt) (cs : List Value) (h : kPkt.K w p cs) (ha : p.asks.length ≤ 1099511627776) (hfl : p.filters.length ≤ 1099511627776) (hcl : p.codes.length ≤ 1099511627776) :
    Calls Tryz.prog 35 #[.agg cs.toArray] w fun e w' => e = .returned (.int .i64 (if pchk p = 0 then lenP p else 0)) ∧ Below w.heap.size w w' := by
  obtain ⟨X, hX⟩ : ∃ X : World, X = w.alloc (.cells cs.toArray 38) := ⟨_, rfl⟩
  have hbx : Below w.heap.size w X := by rw [hX]; exact below_alloc (Below.refl w.heap.size w) _
  have HBX := Aside0.mk hbx
  have HQ := Aside0.mk (show X.heap[w.heap.size]? = some (.cells cs.toArray 38 (0, 0)) by rw [hX]; exact heap_alloc_new w _)
  have HG := Aside0.mk (hg.below hbx hg.sz hbx.size)
  have HK := Aside0.mk (kPkt.K_below hbx h)
  have HSZ := Aside0.mk (pkt_szA h)
  have HX := Aside0.mk hX
  have HP := Aside0.mk (show pchk p = 0 → 1 ≤ p.kind ∧ p.kind ≤ 14 from fun e => ⟨(pchk_right e).k1, (pchk_right e).k14⟩)
  obtain ⟨e0, he0⟩ : ∃ e0, e0 = pchk p := ⟨_, rfl⟩
  rw [← he0] at HP ⊢
  have HE := Aside0.mk he0
  obtain ⟨r0, hr0⟩ : ∃ r0 : Int, r0 = (if e0 = 0 then lenP p else 0) := ⟨_, rfl⟩
  rw [← hr0]
  have HR0 := Aside0.mk hr0
  clear hX hbx hg h he0 hr0
  go_enter Tryz.func35, Tryz.ntmps35
  go_upto_region 1 with fail
  refine wp_wld (w2 := X) (by rw [HX.out]) ?_
  clear HX
  by_cases hz : e0 = 0
  · subst hz
    have HP2 := Aside0.mk (HP.out rfl)
    have HR2 := Aside0.mk (show r0 = lenP p by rw [HR0.out, if_pos rfl])
    clear HP HR0
    go_wp2_with (first
      | (refine wpList_load_row rfl 38 _ rfl w.heap.size rfl 38 _ (0, 0) _ HQ.out Tryz.underlying38 rfl HSZ.out ?_)
      | (have hw2 := HQ2.out; refine wpList_load_row rfl 38 _ rfl w.heap.size rfl 38 _ (0, 0) _ hw2 Tryz.underlying38 rfl HSZ.out ?_; clear hw2)
      | (go_at_call 28; (with_reducible refine (pcheck_any HG.out p cs HK.out ha hfl hcl).mono ?_); rintro e w1 ⟨rfl, hB⟩; rw [← HE.out]; have HB1 := Aside0.mk hB; have HQ2 := Aside0.mk ((hB.block _ (blk_lt HQ.out)).trans HQ.out); clear hB HQ)
      | (go_at_call 73; (with_reducible refine (length_any (HG.out.below HB1.out HG.out.sz HB1.out.size) p cs (kPkt.K_below HB1.out HK.out) HP2.out.1 HP2.out.2 ha hfl).mono ?_); rintro e w2 ⟨rfl, hB⟩; have HB2 := Aside0.mk (HB1.out.trans (hB.mono HB1.out.size)); clear hB))
    go_ret
    exact ⟨by rw [HR2.out]; rfl, HBX.out.trans (HB2.out.mono HBX.out.size)⟩
  · have tz : (e0 != 0) = true := by simpa using hz
    have HR2 := Aside0.mk (show r0 = 0 by rw [HR0.out, if_neg hz])
    clear hz HP HR0
    go_wp2_with (first
      | (refine wpList_load_row rfl 38 _ rfl w.heap.size rfl 38 _ (0, 0) _ HQ.out Tryz.underlying38 rfl HSZ.out ?_)
      | (go_at_call 28; (with_reducible refine (pcheck_any HG.out p cs HK.out ha hfl hcl).mono ?_); rintro e w1 ⟨rfl, hB⟩; rw [← HE.out]; have HB1 := Aside0.mk hB; clear hB))
    go_ret
    exact ⟨by rw [HR2.out]; rfl, HBX.out.trans (HB1.out.mono HBX.out.size)⟩
theorem len_bound {p : Pkt} (hR : Right p) (ha : p.asks.length ≤ 1099511627776) (hfl : p.filters.length ≤ 1099511627776) (hcl : p.codes.length ≤ 1099511627776) (hm : p.msg.payload.length ≤ 1099511627776) : lenP p = (fldE p).length ∧ (fldE p).length ≤ 268435455 := by
  have h := len_fld hR ha hfl hcl hm
  have := hR.len
  exact ⟨h, by omega⟩
theorem encE_len {p : Pkt} (h : (fldE p).length ≤ 268435455) : ((encE p).length : Int) = 1 + (encL 5 (lenCl ((fldE p).length : Int))).length + (fldE p).length := by
  have e : lenCl ((fldE p).length : Int) = (fldE p).length := by unfold lenCl; rw [if_neg (by omega), if_neg (by omega)]
  rw [e, encL_lenE 5 _ (by omega)]
  unfold encE
  simp only [List.length_cons, List.length_append]
  omega
theorem encL_small : ∀ (f : Nat) (n : Int), (encL f n).length ≤ f + 1
  | 0, n => by simp [encL]
  | f + 1, n => by
    simp only [encL]
    split
    · have := encL_small f (n / 128)
      simp only [List.length_cons]; omega
    · simp
set_option maxRecDepth 100000 in
theorem Size_any {w : World} (hg : Gl w) (p : Pkt) (cs : List Value) (h : kPkt.K w p cs) (ha : p.asks.length ≤ 1099511627776) (hfl : p.filters.length ≤ 1099511627776) (hcl : p.codes.length ≤ 1099511627776) (hm : p.msg.payload.length ≤ 1099511627776) :
    Calls Tryz.prog 34 #[.agg cs.toArray] w fun e w' => e = .returned (.int .i64 (if pchk p = 0 then (encE p).length else 0)) ∧ Below w.heap.size w w' := by
  obtain ⟨X, hX⟩ : ∃ X : World, X = w.alloc (.cells cs.toArray 38) := ⟨_, rfl⟩
  have hbx : Below w.heap.size w X := by rw [hX]; exact below_alloc (Below.refl w.heap.size w) _
  have HBX := Aside0.mk hbx
  have HQ := Aside0.mk (show X.heap[w.heap.size]? = some (.cells cs.toArray 38 (0, 0)) by rw [hX]; exact heap_alloc_new w _)
  have HG := Aside0.mk (hg.below hbx hg.sz hbx.size)
  have HK := Aside0.mk (kPkt.K_below hbx h)
  have HSZ := Aside0.mk (pkt_szA h)
  have HX := Aside0.mk hX
  have HP := Aside0.mk (show pchk p = 0 → lenP p = (fldE p).length ∧ (fldE p).length ≤ 268435455 from fun e => len_bound (pchk_right e) ha hfl hcl hm)
  obtain ⟨e0, he0⟩ : ∃ e0, e0 = pchk p := ⟨_, rfl⟩
  rw [← he0] at HP ⊢
  have HE := Aside0.mk he0
  obtain ⟨r0, hr0⟩ : ∃ r0 : Int, r0 = (if e0 = 0 then ((encE p).length : Int) else 0) := ⟨_, rfl⟩
  rw [← hr0]
  have HR0 := Aside0.mk hr0
  clear hX hbx hg h he0 hr0
  go_enter Tryz.func34, Tryz.ntmps34
  go_upto_region 1 with fail
  refine wp_wld (w2 := X) (by rw [HX.out]) ?_
  clear HX
  by_cases hz : e0 = 0
  · subst hz
    have HP2 := Aside0.mk (HP.out rfl)
    have HR2 := Aside0.mk (show r0 = ((encE p).length : Int) by rw [HR0.out, if_pos rfl])
    clear HP HR0
    obtain ⟨n, hn⟩ : ∃ n, n = lenP p := ⟨_, rfl⟩
    obtain ⟨L, hL⟩ : ∃ L, L = encL 5 (lenCl n) := ⟨_, rfl⟩
    have HN := Aside0.mk hn
    have HLL := Aside0.mk (show L = [] ++ encL 5 (lenCl n) from hL)
    have HEN := Aside0.mk (show ((encE p).length : Int) = 1 + L.length + n by rw [encE_len HP2.out.2, ← HP2.out.1, ← hn, hL])
    have hb1 : (L.length : Int) ≤ 6 := by rw [hL]; have := encL_small 5 (lenCl n); omega
    have hb2 : 0 ≤ n ∧ n ≤ 268435455 := by have := HP2.out; omega
    have w1 : wrap64 (1 + (L.length : Int)) = 1 + (L.length : Int) := by unfold wrap64; omega
    have w2 : wrap64 (1 + (L.length : Int) + n) = 1 + (L.length : Int) + n := by unfold wrap64; omega
    clear hn hL
    go_wp2_with (first
      | (refine wpList_load_row rfl 38 _ rfl w.heap.size rfl 38 _ (0, 0) _ HQ.out Tryz.underlying38 rfl HSZ.out ?_)
      | (go_at_call 28; (with_reducible refine (pcheck_any HG.out p cs HK.out ha hfl hcl).mono ?_); rintro e w1 ⟨rfl, hB⟩; rw [← HE.out]; have HB1 := Aside0.mk hB; have HQ2 := Aside0.mk ((hB.block _ (blk_lt HQ.out)).trans HQ.out); clear hB HQ)
      | (have hw2 := HQ2.out; refine wpList_load_row rfl 38 _ rfl w.heap.size rfl 38 _ (0, 0) _ hw2 Tryz.underlying38 rfl HSZ.out ?_; clear hw2)
      | (go_at_call 35; (with_reducible refine (Length_any (HG.out.below HB1.out HG.out.sz HB1.out.size) p cs (kPkt.K_below HB1.out HK.out) ha hfl hcl).mono ?_); rintro e w2 ⟨rfl, hB⟩; rw [← HE.out, if_pos rfl, ← HN.out]; have HB2 := Aside0.mk (HB1.out.trans (hB.mono HB1.out.size)); clear hB)
      | (go_at_call 75; refine (putLength_any [] n none 0 _ (Kd.C_nil _ _) (by decide) L HLL.out).mono ?_; rintro e w3 ⟨v3, rfl, hR, hB⟩; obtain ⟨A5, c5, rfl, hc5, hC5⟩ := Kd.R_reads hR; have HB3 := Aside0.mk (HB2.out.trans (hB.mono HB2.out.size)); clear hR hB hc5 hC5))
    go_ret
    exact ⟨by rw [HR2.out, HEN.out]; rfl, HBX.out.trans (HB3.out.mono HBX.out.size)⟩
  · have tz : (e0 != 0) = true := by simpa using hz
    have HR2 := Aside0.mk (show r0 = 0 by rw [HR0.out, if_neg hz])
    clear hz HP HR0
    go_wp2_with (first
      | (refine wpList_load_row rfl 38 _ rfl w.heap.size rfl 38 _ (0, 0) _ HQ.out Tryz.underlying38 rfl HSZ.out ?_)
      | (go_at_call 28; (with_reducible refine (pcheck_any HG.out p cs HK.out ha hfl hcl).mono ?_); rintro e w1 ⟨rfl, hB⟩; rw [← HE.out]; have HB1 := Aside0.mk hB; clear hB))
    go_ret
    exact ⟨by rw [HR2.out]; rfl, HBX.out.trans (HB1.out.mono HBX.out.size)⟩
end Go.Proofs.YthlbcgaegaoanaaGreatDoor.Cr

namespace Go.Proofs.YthlbcgaegaoanaaGreatDoor.Cr
open Go Go.RowKit Go.Proofs.YthlbcgaegaoanaaGreatDoorW.PrintWords Go.Proofs.YthlbcgaegaoanaaGreatDoorW.PrintLast Go.Proofs.YthlbcgaegaoanaaGreatDoorW.PrintMore Go.Proofs.YthlbcgaegaoanaaGreatDoor.Kinds Go.Proofs.YthlbcgaegaoanaaGreatDoor.Utf Go.Proofs.YthlbcgaegaoanaaGreatDoor.Chk Go.Proofs.YthlbcgaegaoanaaGreatDoor.Rdr
set_option linter.unusedVariables false
set_option linter.unusedSimpArgs false
set_option maxRecDepth 100000 in
set_option maxHeartbeats 4000000 in
theorem back_any {w : World} (hg : Gl w) (p : Pkt) (cs : List Value) (h : kPkt.K w p cs) (hpf : PFits p) (hpb : PB p) (m : List Int) (D : Option Addr) (k cd : Nat) (hk : k = m.length) (hlc : m.length ≤ cd) (hd : (Kd.int .u8).C w D m.length m) (hmb : Bytes m) (top : Int) :
    Calls Tryz.prog 10 #[.agg cs.toArray, .slice D k cd, .int .i64 top] w fun e w' => e = .returned (.bool true) ∧ Below w.heap.size w w' := by
  subst hk
  obtain ⟨X, hX⟩ : ∃ X : World, X = w.alloc (.cells cs.toArray 38) := ⟨_, rfl⟩
  have hbx : Below w.heap.size w X := by rw [hX]; exact below_alloc (Below.refl w.heap.size w) _
  have HBX := Aside0.mk hbx
  have hq : X.heap[w.heap.size]? = some (.cells cs.toArray 38 (0, 0)) := by rw [hX]; exact heap_alloc_new w _
  have HGX := Aside0.mk (hg.below hbx hg.sz hbx.size)
  -- what holds at every world that is reached
  have HAT := Aside0.mk (show ∀ W : World, Below X.heap.size X W → Gl W ∧ kPkt.K W p cs ∧ W.heap[w.heap.size]? = some (.cells cs.toArray 38 (0, 0)) ∧ (Kd.int .u8).C W D m.length m from fun W hb =>
    ⟨(hg.below hbx hg.sz hbx.size).below hb (hg.below hbx hg.sz hbx.size).sz hb.size, kPkt.K_below hb (kPkt.K_below hbx h), (hb.block _ (blk_lt hq)).trans hq, Kd.C_below (Kd.C_below hd hbx) hb⟩)
  have HSZ := Aside0.mk (pkt_szA h)
  have HX := Aside0.mk hX
  have HPF := Aside0.mk hpf
  have HPB := Aside0.mk hpb
  have HMB := Aside0.mk (And.intro hmb hlc)
  clear hX hbx hg h hq hpf hpb hmb hlc hd
  go_enter Tryz.func10, Tryz.ntmps10
  go_upto_region 1 with fail
  refine wp_wld (w2 := X) (by rw [HX.out]) ?_
  clear HX
  go_upto_region 3 with (go_at_call 24; (with_reducible refine (known3_any HGX.out).mono ?_); rintro e w1 ⟨rfl, hB⟩; have HB := Aside0.mk hB; clear hB)
  have HA1 := Aside0.mk (HAT.out w1 HB.out)
  have HQ1 := Aside0.mk HA1.out.2.2.1
  obtain ⟨b0, hb0⟩ : ∃ b0, b0 = decide (0 ≤ pktC 150000 p) := ⟨_, rfl⟩
  have HB0 := Aside0.mk hb0
  clear hb0
  cases b0 with
  | false =>
    go_wp2_with (first
      | (refine wpList_load_row rfl 38 _ rfl w.heap.size rfl 38 _ (0, 0) _ HQ1.out Tryz.underlying38 rfl HSZ.out ?_)
      | (go_at_call 33; (with_reducible refine (few3_any p cs HA1.out.2.1 HPF.out).mono ?_); rintro e w2 ⟨rfl, hB⟩; rw [← HB0.out]; have HB2 := Aside0.mk (HB.out.trans (hB.mono HB.out.size)); clear hB))
    go_ret
    exact ⟨rfl, HBX.out.trans (HB2.out.mono HBX.out.size)⟩
  | true =>
  by_cases hlen : 150000 < m.length
  · have t1 : decide (150000 < (m.length : Int)) = true := decide_eq_true (by omega)
    clear hlen
    go_wp2_with (first
      | (refine wpList_load_row rfl 38 _ rfl w.heap.size rfl 38 _ (0, 0) _ HQ1.out Tryz.underlying38 rfl HSZ.out ?_)
      | (go_at_call 33; (with_reducible refine (few3_any p cs HA1.out.2.1 HPF.out).mono ?_); rintro e w2 ⟨rfl, hB⟩; rw [← HB0.out]; have HB2 := Aside0.mk (HB.out.trans (hB.mono HB.out.size)); clear hB))
    go_ret
    exact ⟨rfl, HBX.out.trans (HB2.out.mono HBX.out.size)⟩
  have t1 : decide (150000 < (m.length : Int)) = false := decide_eq_false (by omega)
  have HML := Aside0.mk (show m.length ≤ 150000 by omega)
  clear hlen
  have hfew := few_sizes (of_decide_eq_true HB0.out.symm)
  have HS := Aside0.mk (show p.asks.length ≤ 1099511627776 ∧ p.filters.length ≤ 1099511627776 ∧ p.codes.length ≤ 1099511627776 ∧ p.msg.payload.length ≤ 1099511627776 by omega)
  clear hfew
  obtain ⟨e0, he0⟩ : ∃ e0, e0 = pchk p := ⟨_, rfl⟩
  have HE := Aside0.mk he0
  clear he0
  go_upto_region 5 with (first
    | (refine wpList_load_row rfl 38 _ rfl w.heap.size rfl 38 _ (0, 0) _ HQ1.out Tryz.underlying38 rfl HSZ.out ?_)
    | (go_at_call 33; (with_reducible refine (few3_any p cs HA1.out.2.1 HPF.out).mono ?_); rintro e w2 ⟨rfl, hB⟩; rw [← HB0.out]; have HB2 := Aside0.mk (HB.out.trans (hB.mono HB.out.size)); clear hB))
  have HA2 := Aside0.mk (HAT.out w2 HB2.out)
  clear HA1 HQ1 HB
  go_upto_region 6 with (first
    | (refine wpList_load_row rfl 38 _ rfl w.heap.size rfl 38 _ (0, 0) _ HA2.out.2.2.1 Tryz.underlying38 rfl HSZ.out ?_)
    | (go_at_call 28; (with_reducible refine (pcheck_any HA2.out.1 p cs HA2.out.2.1 HS.out.1 HS.out.2.1 HS.out.2.2.1).mono ?_); rintro e w3 ⟨rfl, hB⟩; rw [← HE.out]; have HB3 := Aside0.mk (HB2.out.trans (hB.mono HB2.out.size)); clear hB))
  have HA3 := Aside0.mk (HAT.out w3 HB3.out)
  clear HA2 HB2
  obtain ⟨L, hL⟩ : ∃ L, L = (if pchk p = 0 then encE p else []) := ⟨_, rfl⟩
  have HL := Aside0.mk hL
  clear hL
  go_upto_region 7 with (first
    | (refine wpList_load_row rfl 38 _ rfl w.heap.size rfl 38 _ (0, 0) _ HA3.out.2.2.1 Tryz.underlying38 rfl HSZ.out ?_)
    | (go_at_call 29; (with_reducible refine (encode_any HA3.out.1 p cs HA3.out.2.1 HS.out.1 HS.out.2.1 HS.out.2.2.1 HS.out.2.2.2).mono ?_); rintro e w4 ⟨v8, rfl, hR8, hB8⟩; rw [← HL.out] at hR8; rw [← HE.out]; obtain ⟨A8, c8, hv8, hc8, hC8⟩ := Kd.R_reads hR8; subst hv8; have HC4 := Aside0.mk (And.intro hc8 hC8); have HB4 := Aside0.mk (HB3.out.trans (hB8.mono HB3.out.size)); clear hR8 hB8 hc8 hC8; dsimp only))
  have HA4 := Aside0.mk (HAT.out w4 HB4.out)
  clear HA3 HB3
  have tee : (e0 != e0) = false := by simp
  by_cases hz : e0 = 0
  · have hpc : pchk p = 0 := by rw [← HE.out]; exact hz
    have hR := pchk_right hpc
    have hlb := len_bound hR HS.out.1 HS.out.2.1 HS.out.2.2.1 HS.out.2.2.2
    have hLE : L = encE p := by rw [HL.out, if_pos hpc]
    have hlen2 := encE_len hlb.2
    have hs6 : (encL 5 (lenCl ((fldE p).length : Int))).length ≤ 4 := by
      have e : lenCl ((fldE p).length : Int) = (fldE p).length := by unfold lenCl; rw [if_neg (by omega), if_neg (by omega)]
      rw [e, encL_lenE 5 _ (by omega)]
      exact lenE_le 3 5 _ (by omega) (by have := hlb.2; simp; omega)
    have hs1 : 1 ≤ (encL 5 (lenCl ((fldE p).length : Int))).length := by
      simp only [encL]; split <;> simp
    obtain ⟨n0, hn0⟩ : ∃ n0 : Int, n0 = lenP p := ⟨_, rfl⟩
    have HN := Aside0.mk hn0
    have hde := dec_enc hpc hlb.2 m top
    rw [← hlb.1, ← hn0, ← hLE] at hde
    have HDE := Aside0.mk hde
    have HEB := Aside0.mk (show Bytes (L ++ m) by rw [hLE]; exact (encE_bytes hR HPB.out).app HMB.out.1)
    have HLN := Aside0.mk (show (L ++ m).length ≤ 1099511627770 ∧ L.length + m.length ≤ 1099511627776 by
      have := HML.out
      rw [List.length_append]
      rw [← hLE] at hlen2
      omega)
    have hsm : n0 + 2 ≤ (L.length : Int) ∧ (L.length : Int) ≤ n0 + 5 ∧ 0 ≤ n0 ∧ n0 ≤ 268435455 := by
      rw [← hLE] at hlen2
      rw [hn0, hlb.1]
      omega
    have HLE := Aside0.mk hLE
    have HSL := Aside0.mk (pkt_szL HA4.out.2.1)
    have twn : wrap64 (n0 + 5) = n0 + 5 := by unfold wrap64; omega
    have HPC := Aside0.mk hpc
    clear hR hlb hLE hlen2 hs6 hs1 hde hn0 hpc HE HL
    subst hz
    go_upto_region 11 with (go_at_call 27; (with_reducible refine (num_any 0 _).mono ?_); rintro e w7 ⟨rfl, rfl⟩)
    obtain ⟨LM, hLM⟩ : ∃ LM, LM = L ++ m := ⟨_, rfl⟩
    have HLM := Aside0.mk hLM
    have HEB2 := Aside0.mk (show Bytes LM by rw [hLM]; exact HEB.out)
    have HLN2 := Aside0.mk (show LM.length ≤ 1099511627770 by rw [hLM]; exact HLN.out.1)
    rw [← hLM] at HDE
    obtain ⟨r, hr⟩ : ∃ r, decP LM top = r := ⟨_, rfl⟩
    have HRR := Aside0.mk hr
    clear hr hLM
    go_upto_region 12 with (first
      | (go_at_call 32; (with_reducible refine (behind_any L m A8 D _ c8 _ cd _ rfl rfl HC4.out.2 HA4.out.2.2.2 HLN.out.2).mono ?_); rintro e w5 ⟨v5, rfl, hR, hB⟩; rw [← HLM.out] at hR; obtain ⟨A5, c5, hv5, hc5, hC5⟩ := Kd.R_reads hR; subst hv5; have HC5 := Aside0.mk (And.intro hc5 hC5); have HB5 := Aside0.mk (HB4.out.trans (hB.mono HB4.out.size)); clear hR hB hc5 hC5; dsimp only)
      | (go_at_call 25; (with_reducible refine (decode_len (HAT.out w5 HB5.out).1 LM top A5 _ c5 rfl HC5.out.1 HC5.out.2 HEB2.out HLN2.out r HRR.out).mono ?_); rintro e w9 ⟨cs9, ev9, rfl, hM, hE, hB⟩; have HE9 := Aside0.mk hE; have HM9 := Aside0.mk (And.intro hM (pk_open hM)); have HB9 := Aside0.mk hB; clear hM hB hE; dsimp only)
      | (refine wpList_store_row rfl 38 _ _ rfl w9.heap.size _ rfl rfl 38 _ (heap_alloc_new w9 (.cells noCells 38)) HM9.out.2.1 HM9.out.2.2.1 HM9.out.2.2.2.1 ?_))
    obtain ⟨G2, hG2⟩ : ∃ G, G = w9.heap.size := ⟨_, rfl⟩
    obtain ⟨Wa, hWa⟩ : ∃ W : World, W = (w9.alloc (.cells noCells 38)).setRow w9.heap.size cs9.toArray := ⟨_, rfl⟩
    have hn9 := pk_new w9 cs9
    rw [← hWa] at hn9
    have h5a : Below w5.heap.size w5 Wa := HB9.out.trans (hn9.2.mono HB9.out.size)
    have HEV := Aside0.mk (ev_below HE9.out hn9.2)
    have HR2 := Aside0.mk (pkt_range (show Wa.heap[G2]? = some (.cells cs9.toArray 38 (0, 0)) by rw [hG2]; exact hn9.1))
    have HK2 := Aside0.mk (kPkt.K_of_M (Kd.M_below HM9.out.1 hn9.2))
    have HZ2 := Aside0.mk (pkt_szL HK2.out)
    have HBa := Aside0.mk (HB5.out.trans (h5a.mono HB5.out.size))
    have HAa := Aside0.mk (HAT.out Wa HBa.out)
    have HRa := Aside0.mk (pkt_range HAa.out.2.2.1)
    have HGK := Aside0.mk (show ∀ W : World, Below Wa.heap.size Wa W → W.rangeAt G2 0 cs9 ∧ kPkt.K W r.p cs9 from fun W hb => ⟨pkt_range ((hb.block _ (by rw [hG2]; exact blk_lt hn9.1)).trans (by rw [hG2]; exact hn9.1)), kPkt.K_below hb HK2.out⟩)
    refine wp_wld (w2 := Wa) (by rw [hWa]; rfl) ?_
    rw [← hG2]
    clear hG2 hWa hn9 h5a HB9 HM9 HE9 HA4 HC4 HC5 HB5 HB4
    by_cases hbig : n0 > topP top
    · have hr := HRR.out
      rw [HDE.out, if_pos hbig] at hr
      subst hr
      have tb : decide (n0 > topP top) = true := decide_eq_true hbig
      have tb2 : decide (topP top < n0) = true := decide_eq_true hbig
      clear hbig HDE HRR hsm
      go_wp2_with (first
        | (refine wpList_load_midF (by rfl) 38 (.tmp 3) rfl w.heap.size 0 rfl cs _ HRa.out Tryz.underlying38 rfl HSL.out ?_)
        | (go_at_call 35; (with_reducible refine (Length_any HAa.out.1 p cs HAa.out.2.1 HS.out.1 HS.out.2.1 HS.out.2.2.1).mono ?_); rintro e wb ⟨rfl, hB⟩; rw [if_pos HPC.out, ← HN.out]; have HBb := Aside0.mk hB; clear hB)
        | (go_at_call 31; (with_reducible refine (clamp_any top _).mono ?_); rintro e wc ⟨rfl, rfl⟩)
        | (go_at_call 30; (refine (told3_any (ev_below HEV.out (HBb.out)) (NZ.mk (by decide))).mono ?_); rintro e w10 ⟨rfl, hB⟩; have HB10 := Aside0.mk hB; clear hB; dsimp only [toldP, Option.getD]))
      go_ret
      exact ⟨rfl, (HBX.out.trans (HBa.out.mono HBX.out.size)).trans (((HBb.out.trans (HB10.out.mono HBb.out.size)).alloc (Nat.le_trans HBb.out.size HB10.out.size) _).mono (HBX.out.trans (HBa.out.mono HBX.out.size)).size)⟩
    · have hr := HRR.out
      rw [HDE.out, if_neg hbig] at hr
      subst hr
      have hEV : ev9 = .nilIface := HEV.out
      subst hEV
      have tb : decide (n0 > topP top) = false := decide_eq_false hbig
      have tb2 : decide (topP top < n0) = false := decide_eq_false hbig
      have tl1 : decide ((L.length : Int) > n0) = true := decide_eq_true (by omega)
      have tl1' : decide (n0 < (L.length : Int)) = true := decide_eq_true (by omega)
      have tl2 : decide ((L.length : Int) ≤ n0 + 5) = true := decide_eq_true (by omega)
      clear hbig HDE HRR hsm HEV
      go_upto_region 15 with (first
        | (refine wpList_load_midF (by rfl) 38 (.tmp 3) rfl w.heap.size 0 rfl cs _ HRa.out Tryz.underlying38 rfl HSL.out ?_)
        | (go_at_call 35; (with_reducible refine (Length_any HAa.out.1 p cs HAa.out.2.1 HS.out.1 HS.out.2.1 HS.out.2.2.1).mono ?_); rintro e wb ⟨rfl, hB⟩; rw [if_pos HPC.out, ← HN.out]; have HBb := Aside0.mk hB; clear hB)
        | (go_at_call 31; (with_reducible refine (clamp_any top _).mono ?_); rintro e wc ⟨rfl, rfl⟩))
      have HBc := Aside0.mk (HBa.out.trans (HBb.out.mono HBa.out.size))
      have HAb := Aside0.mk (HAT.out wb HBc.out)
      have HRb := Aside0.mk (pkt_range HAb.out.2.2.1)
      have HGb := Aside0.mk (HGK.out wb HBb.out)
      clear HAa HRa
      have h1 := fun (W : World) (hb : Below wb.heap.size wb W) => HGK.out W (HBb.out.trans (hb.mono HBb.out.size))
      have h2 := fun (W : World) (hb : Below wb.heap.size wb W) => HAT.out W (HBc.out.trans (hb.mono HBc.out.size))
      have HGS := Aside0.mk h1
      have HAS := Aside0.mk h2
      clear h1 h2
      go_wp2_with (first
        | (refine wpList_load_midF (by rfl) 38 (.tmp 3) rfl w.heap.size 0 rfl cs _ HRb.out Tryz.underlying38 rfl HSL.out ?_)
        | (have hra := HR5.out.1; refine wpList_load_midF (by rfl) 38 (.tmp 3) rfl w.heap.size 0 rfl cs _ hra Tryz.underlying38 rfl HSL.out ?_; clear hra)
        | (have hrb := HR5.out.2; refine wpList_load_midF (by rfl) 38 (.tmp 10) rfl G2 0 rfl cs9 _ hrb Tryz.underlying38 rfl HZ2.out ?_; clear hrb)
        | (go_at_call 34; (with_reducible refine (Size_any HAb.out.1 p cs HAb.out.2.1 HS.out.1 HS.out.2.1 HS.out.2.2.1 HS.out.2.2.2).mono ?_); rintro e wd ⟨rfl, hB⟩; rw [if_pos HPC.out, ← HLE.out]; have HBd := Aside0.mk hB; have HAd := Aside0.mk (HAS.out wd hB); have HGd := Aside0.mk (HGS.out wd hB); have HR5 := Aside0.mk (And.intro (pkt_range HAd.out.2.2.1) HGd.out.1); clear hB HRb)
        | (go_at_call 26; (with_reducible refine (same_any p cs cs9 wd HAd.out.2.1 HGd.out.2).mono ?_); rintro e we ⟨rfl, hB⟩; have HBe := Aside0.mk (HBd.out.trans (hB.mono HBd.out.size)); have HAe := Aside0.mk (HAS.out we HBe.out); clear hB HR5; have HR5 := Aside0.mk (And.intro (pkt_range HAe.out.2.2.1) True.intro))
        | (have _ := HAf.out; go_at_call 35; (with_reducible refine (Length_any HAf.out.1 p cs HAf.out.2.1 HS.out.1 HS.out.2.1 HS.out.2.2.1).mono ?_); rintro e wg ⟨rfl, hB⟩; rw [if_pos HPC.out, ← HN.out]; have HBg := Aside0.mk (HBf.out.trans (hB.mono HBf.out.size)); clear hB)
        | (go_at_call 35; (with_reducible refine (Length_any HAe.out.1 p cs HAe.out.2.1 HS.out.1 HS.out.2.1 HS.out.2.2.1).mono ?_); rintro e wf ⟨rfl, hB⟩; rw [if_pos HPC.out, ← HN.out]; have HBf := Aside0.mk (HBe.out.trans (hB.mono HBe.out.size)); have HAf := Aside0.mk (HAS.out wf HBf.out); clear hB HR5; have HR5 := Aside0.mk (And.intro (pkt_range HAf.out.2.2.1) True.intro)))
      go_ret
      exact ⟨rfl, (HBX.out.trans (HBc.out.mono HBX.out.size)).trans (HBg.out.mono (HBX.out.trans (HBc.out.mono HBX.out.size)).size)⟩
  · have tz : (e0 != 0) = true := by simpa using hz
    have hL0 : L = [] := by rw [HL.out, if_neg (by rw [← HE.out]; exact hz)]
    subst hL0
    have HZ := Aside0.mk hz
    have HR4 := Aside0.mk (pkt_range HA4.out.2.2.1)
    have HSL := Aside0.mk (pkt_szL HA4.out.2.1)
    clear hz
    go_wp2_with (first
      | (refine wpList_load_midF (by rfl) 38 (.tmp 3) rfl w.heap.size 0 rfl cs _ HR4.out Tryz.underlying38 rfl HSL.out ?_)
      | (go_at_call 27; (with_reducible refine (num_any e0 _).mono ?_); rintro e w7 ⟨rfl, rfl⟩)
      | (go_at_call 34; (with_reducible refine (Size_any HA4.out.1 p cs HA4.out.2.1 HS.out.1 HS.out.2.1 HS.out.2.2.1 HS.out.2.2.2).mono ?_); rintro e w5 ⟨rfl, hB⟩; rw [← HE.out, if_neg HZ.out]; have HB5 := Aside0.mk (HB4.out.trans (hB.mono HB4.out.size)); clear hB))
    go_ret
    exact ⟨rfl, HBX.out.trans (HB5.out.mono HBX.out.size)⟩
end Go.Proofs.YthlbcgaegaoanaaGreatDoor.Cr

namespace Go.Proofs.YthlbcgaegaoanaaGreatDoor.Cr
open Go Go.RowKit Go.Proofs.YthlbcgaegaoanaaGreatDoorW.PrintWords Go.Proofs.YthlbcgaegaoanaaGreatDoorW.PrintLast Go.Proofs.YthlbcgaegaoanaaGreatDoorW.PrintMore Go.Proofs.YthlbcgaegaoanaaGreatDoor.Kinds Go.Proofs.YthlbcgaegaoanaaGreatDoor.Utf Go.Proofs.YthlbcgaegaoanaaGreatDoor.Chk Go.Proofs.YthlbcgaegaoanaaGreatDoor.Rdr Go.Proofs.YthlbcgaegaoanaaGreatDoor.Opens
set_option linter.unusedVariables false
set_option linter.unusedSimpArgs false
theorem _root_.Go.Proofs.YthlbcgaegaoanaaGreatDoor.Opens.Opens.imp {P : Program} {α : Type} {d : Kd α} {G G' : α → Prop} {t : TypeId} (h : Opens P d G t) (hg : ∀ x, G x → G' x) : Opens P d G' t := by
  refine ⟨?_⟩
  intro H enc w base spare held fuel cs x hx
  obtain ⟨y, h1, h2⟩ := h.out _ enc w base spare held fuel cs x hx
  exact ⟨y, h1, hg y h2⟩
theorem wf_bytes {l : List Int} (hw : ∀ x ∈ l, (Lit.int .u8 x).wf = true) : Bytes l := fun x hx => by
  have h := hw x hx
  simp only [Lit.wf, Bool.and_eq_true, decide_eq_true_eq] at h
  have hmin : IntKind.u8.min = 0 := rfl
  have hmax : IntKind.u8.max = 255 := rfl
  omega
theorem opens_byt : Opens Tryz.prog kBytes (fun xs => xs.length ≤ 9223372036854775807 ∧ Bytes xs) 22 :=
  (opens_slice Tryz.underlying22 (by kernel_rfl) (opens_int Tryz.underlying5)).imp (fun x h => ⟨by have := h.1; unfold maxLen at this; omega, wf_bytes h.2⟩)
theorem opens_str : Opens Tryz.prog Kd.string (fun s => s.size ≤ 9223372036854775807) 9 :=
  (opens_string Tryz.underlying9).imp (fun x h => by unfold maxLen at h; omega)
theorem opens_msgC : Opens Tryz.prog kMsg (fun x => x.topic.size ≤ 9223372036854775807 ∧ x.payload.length ≤ 9223372036854775807 ∧ Bytes x.payload) 34 :=
  (opens_struct (fun x : Msg => (x.topic, x.payload, x.qos, x.retain)) (fun y => ⟨y.1, y.2.1, y.2.2.1, y.2.2.2⟩) (fun _ => rfl) Tryz.underlying34 (by kernel_rfl)
    (opensF_cons rfl (by kernel_rfl) opens_str (opensF_cons rfl (by kernel_rfl) opens_byt
      (opensF_cons rfl (by kernel_rfl) (opens_int Tryz.underlying3) (opensF_one rfl (by kernel_rfl) (opens_bool Tryz.underlying4)))))).imp (fun x h => ⟨h.1, h.2.1.1, h.2.1.2⟩)
theorem opens_ask : Opens Tryz.prog kAsk (fun x => x.filter.size ≤ 9223372036854775807) 124 :=
  (opens_struct (fun x : AskV => (x.filter, x.qos)) (fun y => ⟨y.1, y.2⟩) (fun _ => rfl) Tryz.underlying124 (by kernel_rfl)
    (opensF_cons rfl (by kernel_rfl) opens_str (opensF_one rfl (by kernel_rfl) (opens_int Tryz.underlying3)))).imp (fun x h => h.1)
theorem opens_asks : Opens Tryz.prog (Kd.slice 124 kAsk) (fun xs => xs.length ≤ 9223372036854775807 ∧ ∀ x ∈ xs, x.filter.size ≤ 9223372036854775807) 35 :=
  (opens_slice Tryz.underlying35 (by kernel_rfl) opens_ask).imp (fun x h => ⟨by have := h.1; unfold maxLen at this; omega, h.2⟩)
theorem opens_codes : Opens Tryz.prog (Kd.slice 3 (Kd.int .i64)) (fun xs => xs.length ≤ 9223372036854775807) 23 :=
  (opens_slice Tryz.underlying23 (by kernel_rfl) (opens_int Tryz.underlying3)).imp (fun x h => by have := h.1; unfold maxLen at this; omega)
theorem opens_fils : Opens Tryz.prog (Kd.slice 9 Kd.string) (fun xs => xs.length ≤ 9223372036854775807 ∧ ∀ x ∈ xs, x.size ≤ 9223372036854775807) 36 :=
  (opens_slice Tryz.underlying36 (by kernel_rfl) opens_str).imp (fun x h => ⟨by have := h.1; unfold maxLen at this; omega, h.2⟩)
theorem opens_pkt : Opens Tryz.prog kPkt (fun p => PFits p ∧ PB p) 38 :=
  (opens_struct (fun x : Pkt => (x.kind, x.level, x.clean, x.keep, x.client, x.hasWill, x.will, x.hasUser, x.user, x.hasPass, x.pass, x.present, x.code, x.dup, x.msg, x.id, x.asks, x.codes, x.filters))
    (fun y => ⟨y.1, y.2.1, y.2.2.1, y.2.2.2.1, y.2.2.2.2.1, y.2.2.2.2.2.1, y.2.2.2.2.2.2.1, y.2.2.2.2.2.2.2.1, y.2.2.2.2.2.2.2.2.1, y.2.2.2.2.2.2.2.2.2.1, y.2.2.2.2.2.2.2.2.2.2.1, y.2.2.2.2.2.2.2.2.2.2.2.1, y.2.2.2.2.2.2.2.2.2.2.2.2.1, y.2.2.2.2.2.2.2.2.2.2.2.2.2.1, y.2.2.2.2.2.2.2.2.2.2.2.2.2.2.1, y.2.2.2.2.2.2.2.2.2.2.2.2.2.2.2.1, y.2.2.2.2.2.2.2.2.2.2.2.2.2.2.2.2.1, y.2.2.2.2.2.2.2.2.2.2.2.2.2.2.2.2.2.1, y.2.2.2.2.2.2.2.2.2.2.2.2.2.2.2.2.2.2⟩) (fun _ => rfl) Tryz.underlying38 (by kernel_rfl)
    (opensF_cons rfl (by kernel_rfl) (opens_int Tryz.underlying3) (opensF_cons rfl (by kernel_rfl) (opens_int Tryz.underlying3) (opensF_cons rfl (by kernel_rfl) (opens_bool Tryz.underlying4) (opensF_cons rfl (by kernel_rfl) (opens_int Tryz.underlying3)
      (opensF_cons rfl (by kernel_rfl) opens_str (opensF_cons rfl (by kernel_rfl) (opens_bool Tryz.underlying4) (opensF_cons rfl (by kernel_rfl) opens_msgC (opensF_cons rfl (by kernel_rfl) (opens_bool Tryz.underlying4)
      (opensF_cons rfl (by kernel_rfl) opens_str (opensF_cons rfl (by kernel_rfl) (opens_bool Tryz.underlying4) (opensF_cons rfl (by kernel_rfl) opens_byt (opensF_cons rfl (by kernel_rfl) (opens_bool Tryz.underlying4)
      (opensF_cons rfl (by kernel_rfl) (opens_int Tryz.underlying3) (opensF_cons rfl (by kernel_rfl) (opens_bool Tryz.underlying4) (opensF_cons rfl (by kernel_rfl) opens_msgC (opensF_cons rfl (by kernel_rfl) (opens_int Tryz.underlying3)
      (opensF_cons rfl (by kernel_rfl) opens_asks (opensF_cons rfl (by kernel_rfl) opens_codes (opensF_one rfl (by kernel_rfl) opens_fils)))))))))))))))))))).imp (fun x h => by
    obtain ⟨_, _, _, _, h4, _, h6, _, h8, _, h10, _, _, _, h14, _, h16, h17, h18⟩ := h
    exact ⟨⟨h4, h8, h10.1, h6.1, h6.2.1, h14.1, h14.2.1, h16.1, h16.2, h17, h18.1, h18.2⟩, ⟨h6.2.2, h10.2, h14.2.2⟩⟩)
end Go.Proofs.YthlbcgaegaoanaaGreatDoor.Cr

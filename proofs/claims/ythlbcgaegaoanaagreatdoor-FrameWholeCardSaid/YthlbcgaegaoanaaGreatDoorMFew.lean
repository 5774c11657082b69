/- crierroom's Count, and crierlaw3.few: a packet of few parts. No statement of the program. crierroom.Count's Message and Packet; crierlaw3.few. Printed by wip/gen_few2.py. No statement of the program. packet.Length, codec.Size; what few lets in. No statement of the program. A packet handed in laid open. No statement of the program. -/
import Derived.Test.YthlbcgaegaoanaaGreatDoorMTold
import Derived.Test.YthlbcgaegaoanaaGreatDoorMFilt
import Derived.Test.YthlbcgaegaoanaaGreatDoorMFirm
import Derived.Test.YthlbcgaegaoanaaGreatDoorMFormL
import Derived.Test.YthlbcgaegaoanaaGreatDoorMLaid
namespace Go.Proofs.YthlbcgaegaoanaaGreatDoor.Cr
open Go Go.RowKit Go.Proofs.YthlbcgaegaoanaaGreatDoorW.PrintWords Go.Proofs.YthlbcgaegaoanaaGreatDoorW.PrintLast Go.Proofs.YthlbcgaegaoanaaGreatDoorW.PrintMore Go.Proofs.YthlbcgaegaoanaaGreatDoor.Kinds Go.Proofs.YthlbcgaegaoanaaGreatDoor.Utf Go.Proofs.YthlbcgaegaoanaaGreatDoor.Chk Go.Proofs.YthlbcgaegaoanaaGreatDoor.Rdr
set_option linter.unusedVariables false
set_option linter.unusedSimpArgs false
def addP (v n : Int) : Int := if 0 ≤ v then v - n else v
def CtIs (K : Nat) (v : Int) (w : World) : Prop := w.heap[K]? = some (.cells #[.int .i64 v] 134 (0, 0)) ∧ -9223372036854775808 ≤ v ∧ v ≤ 1000000
theorem CtIs.below {K : Nat} {v : Int} {w w1 : World} (h : CtIs K v w) (hb : Below w.heap.size w w1) : CtIs K v w1 := ⟨(hb.block _ (blk_lt h.1)).trans h.1, h.2⟩
structure CtTo (K : Nat) (w : World) (v : Int) (w1 : World) : Prop where
  ct : CtIs K v w1
  bel : Below K w w1
  fr : Fr (fun k => k = K) w w1
theorem CtTo.trans {K : Nat} {w w1 w2 : World} {v v2 : Int} (h : CtTo K w v w1) (h2 : CtTo K w1 v2 w2) : CtTo K w v2 w2 := ⟨h2.ct, h.bel.trans h2.bel, h.fr.trans h2.fr (fun _ _ e => e)⟩
theorem CtTo.refl {K : Nat} {w : World} {v : Int} (h : CtIs K v w) : CtTo K w v w := ⟨h, Below.refl _ _, Fr.refl _ _⟩
theorem cok_any {K : Nat} {v : Int} {w : World} (h : CtIs K v w) : Calls Tryz.prog 39 #[.pointer (some ⟨K, 0, none⟩)] w fun e w' => e = .returned (.bool (decide (0 ≤ v))) ∧ w = w' := by
  have x0 : w.cell? ⟨K, 0, none⟩ = some (.int .i64 v) := blk_cell h.1 0
  clear h
  go_enter Tryz.func39, Tryz.ntmps39
  go_wp2
  go_ret
  exact ⟨rfl, rfl⟩
theorem cadd_any {K : Nat} {v : Int} {w : World} (h : CtIs K v w) (n : Int) (h0 : 0 ≤ n) (h1 : n ≤ 9223372036854775807) : Calls Tryz.prog 117 #[.pointer (some ⟨K, 0, none⟩), .int .i64 n] w fun e w' => e = .returned (.bool (decide (0 ≤ addP v n))) ∧ CtTo K w (addP v n) w' := by
  have x0 : w.cell? ⟨K, 0, none⟩ = some (.int .i64 v) := blk_cell h.1 0
  have xf : w.frozen? ⟨K, 0, none⟩ = false := blk_frozen h.1 0
  have HK := Aside0.mk h
  have hr := h.2
  clear h
  by_cases hv : 0 ≤ v
  · have HV := Aside0.mk hv
    have tv : decide (0 ≤ v) = true := decide_eq_true hv
    have tv2 : decide (v ≥ 0) = true := decide_eq_true hv
    have ew : wrap64 (v - n) = v - n := by unfold wrap64; omega
    have HS := Aside0.mk (show CtTo K w (addP v n) (w.setCell ⟨K, 0, none⟩ (.int .i64 (v - n))) from by
      unfold addP
      rw [if_pos hv]
      exact ⟨⟨blk_set HK.out.1 0 _, by omega, by omega⟩, (Below.refl K w).setCell (p := ⟨K, 0, none⟩) (Nat.le_refl _) _, (Fr.refl (fun k => k = K) w).setCell (p := ⟨K, 0, none⟩) (fun _ => rfl) _⟩)
    clear hr hv
    go_enter Tryz.func117, Tryz.ntmps117
    go_wp2
    all_goals
      go_ret
      exact ⟨by unfold addP; rw [if_pos HV.out, show decide (0 ≤ v - n) = decide (n ≤ v) from decide_eq_decide.2 (by omega)]; rfl, HS.out⟩
  · have HV := Aside0.mk hv
    have tv : decide (0 ≤ v) = false := decide_eq_false hv
    have tv2 : decide (v ≥ 0) = false := decide_eq_false hv
    have HS := Aside0.mk (show CtTo K w (addP v n) w from CtTo.refl (by unfold addP; rw [if_neg hv]; exact HK.out))
    clear hr
    go_enter Tryz.func117, Tryz.ntmps117
    go_wp2
    all_goals first
      | (exfalso; omega)
      | (go_ret; exact ⟨by unfold addP; rw [if_neg (by have := HV.out; omega), tv]; rfl, HS.out⟩)
def tadd (v n : Int) : Int := addP (addP v 1) n
theorem ctxt_any {K : Nat} {v : Int} {w : World} (h : CtIs K v w) (t : ByteArray) (ht : t.size ≤ 9223372036854775807) : Calls Tryz.prog 113 #[.pointer (some ⟨K, 0, none⟩), .string t] w fun e w' => e = .returned (.tuple #[]) ∧ CtTo K w (tadd v t.size) w' := by
  have H := Aside0.mk h
  clear h
  go_enter Tryz.func113, Tryz.ntmps113
  go_wp2_with (first
    | (have _ := H1.out; go_at_call 117; (with_reducible refine (cadd_any H1.out.ct (t.size : Int) (by omega) (by omega)).mono ?_); rintro e w2 ⟨rfl, hC⟩; have H2 := Aside0.mk hC; clear hC)
    | (go_at_call 117; (with_reducible refine (cadd_any H.out 1 (by decide) (by decide)).mono ?_); rintro e w1 ⟨rfl, hC⟩; have H1 := Aside0.mk hC; clear hC))
  go_end0
  exact ⟨rfl, H1.out.trans H2.out⟩
theorem cbyt_any {K : Nat} {v : Int} {w : World} (h : CtIs K v w) (A : Option Addr) (n c : Nat) (hn : n ≤ 9223372036854775807) : Calls Tryz.prog 114 #[.pointer (some ⟨K, 0, none⟩), .slice A n c] w fun e w' => e = .returned (.tuple #[]) ∧ CtTo K w (tadd v n) w' := by
  have H := Aside0.mk h
  clear h
  go_enter Tryz.func114, Tryz.ntmps114
  go_wp2_with (first
    | (have _ := H1.out; go_at_call 117; (with_reducible refine (cadd_any H1.out.ct (n : Int) (by omega) (by omega)).mono ?_); rintro e w2 ⟨rfl, hC⟩; have H2 := Aside0.mk hC; clear hC)
    | (go_at_call 117; (with_reducible refine (cadd_any H.out 1 (by decide) (by decide)).mono ?_); rintro e w1 ⟨rfl, hC⟩; have H1 := Aside0.mk hC; clear hC))
  go_end0
  exact ⟨rfl, H1.out.trans H2.out⟩
theorem addP_neg {v : Int} (h : v < 0) (n : Int) : addP v n = v := by unfold addP; rw [if_neg (by omega)]
theorem tadd_neg {v : Int} (h : v < 0) (n : Int) : tadd v n = v := by unfold tadd; rw [addP_neg h, addP_neg h]
def asksC : Int → List AskV → Int
  | v, [] => v
  | v, a :: l => asksC (tadd v a.filter.size) l
def txtsC : Int → List ByteArray → Int
  | v, [] => v
  | v, a :: l => txtsC (tadd v a.size) l
theorem asksC_neg : ∀ (l : List AskV) {v : Int}, v < 0 → asksC v l = v
  | [], v, h => rfl
  | a :: l, v, h => by simp only [asksC]; rw [tadd_neg h]; exact asksC_neg l h
theorem txtsC_neg : ∀ (l : List ByteArray) {v : Int}, v < 0 → txtsC v l = v
  | [], v, h => rfl
  | a :: l, v, h => by simp only [txtsC]; rw [tadd_neg h]; exact txtsC_neg l h
set_option maxRecDepth 100000 in
theorem casks_any {K : Nat} {v : Int} {w : World} (h : CtIs K v w) (l : List AskV) (A : Option Addr) (n c : Nat) (hn : n = l.length) (hl : l.length ≤ 9223372036854775807) (hs : ∀ a ∈ l, a.filter.size ≤ 9223372036854775807) (hC : ∀ W, Below K w W → kAsk.C W A l.length l) :
    Calls Tryz.prog 116 #[.pointer (some ⟨K, 0, none⟩), .slice A n c] w fun e w' => e = .returned (.tuple #[]) ∧ CtTo K w (asksC v l) w' := by
  subst hn
  have HC := Aside0.mk hC
  have HS := Aside0.mk hs
  have HL := Aside0.mk hl
  have HV := Aside0.mk (show CtTo K w v w from CtTo.refl h)
  clear h hC hs hl
  go_enter Tryz.func116, Tryz.ntmps116
  go_wp2_with fail
  go_loopg [4] l.length (fun q i wr => ∃ (k : Nat) (v1 : Int), i = .int .i64 (k : Int) ∧ k + q = l.length ∧ Aside0 (CtTo K w v1 wr) ∧ Aside0 (asksC v1 (l.drop k) = asksC v l))
  case atStart => exact ⟨0, v, rfl, by omega, HV, ⟨rfl⟩⟩
  case round =>
    obtain ⟨k, v1, rfl, hkq, HR, HE⟩ := hrel
    clear HV
    rcases Nat.lt_or_ge k l.length with hk | hk
    · have t0 : decide ((k : Int) < (l.length : Int)) = true := decide_eq_true (by omega)
      have hkl := HL.out
      have ek : wrap64 ((k : Int) + 1) = (k : Int) + 1 := by unfold wrap64; omega
      obtain ⟨q1, rfl⟩ : ∃ q1, gk = q1 + 1 := ⟨gk - 1, by omega⟩
      by_cases hv : 0 ≤ v1
      · have tv : decide (0 ≤ v1) = true := decide_eq_true hv
        obtain ⟨ad1, hA1, c10, cx⟩ := ask_at (HC.out _ HR.out.bel) k hk hk
        subst hA1
        have HFS := Aside0.mk (HS.out l[k] (List.getElem_mem hk))
        have HE2 := Aside0.mk (show asksC (tadd v1 l[k].filter.size) (l.drop (k + 1)) = asksC v l by
          have := HE.out
          rw [List.drop_eq_getElem_cons hk] at this
          exact this)
        clear cx
        generalize l[k] = a at *
        have hlt : ((k : Int) < (l.length : Int)) := by omega
        have h0 : (0 : Int) ≤ (k : Int) := by omega
        have HKQ := Aside0.mk hkq
        clear hkq hk hkl hv
        go_wp2_with (first
          | (go_at_call 39; (with_reducible refine (cok_any HR.out.ct).mono ?_); rintro e w5 ⟨rfl, rfl⟩)
          | (go_at_call 113; (with_reducible refine (ctxt_any HR.out.ct a.filter HFS.out).mono ?_); rintro e w6 ⟨rfl, hC6⟩; have H6 := Aside0.mk (HR.out.trans hC6); clear hC6))
        go_roundg q1
        case measure => exact Nat.lt_succ_self _
        case rel => exact ⟨k + 1, _, by rw [show (((k + 1 : Nat) : Int)) = (k : Int) + 1 by omega]; try rw [ek], by have := HKQ.out; omega, H6, HE2⟩
      · have tv : decide (0 ≤ v1) = false := decide_eq_false hv
        have HF := Aside0.mk (show asksC v l = v1 by rw [← HE.out]; exact asksC_neg _ (by omega))
        have hlt : ((k : Int) < (l.length : Int)) := by omega
        have h0 : (0 : Int) ≤ (k : Int) := by omega
        clear hkq hkl hv
        go_wp2_with (go_at_call 39; (with_reducible refine (cok_any HR.out.ct).mono ?_); rintro e w5 ⟨rfl, rfl⟩)
        all_goals first
          | (exfalso; omega)
          | (go_end0; exact ⟨rfl, by rw [HF.out]; exact HR.out⟩)
    · have t0 : decide ((k : Int) < (l.length : Int)) = false := decide_eq_false (by omega)
      have t0n : decide (k < l.length) = false := decide_eq_false (by omega)
      have HF := Aside0.mk (show asksC v l = v1 by rw [← HE.out, List.drop_eq_nil_of_le hk]; rfl)
      clear hkq hk
      go_wp2
      go_end0
      exact ⟨rfl, by rw [HF.out]; exact HR.out⟩
set_option maxRecDepth 100000 in
theorem ctxts_any {K : Nat} {v : Int} {w : World} (h : CtIs K v w) (l : List ByteArray) (A : Option Addr) (n c : Nat) (hn : n = l.length) (hl : l.length ≤ 9223372036854775807) (hs : ∀ a ∈ l, a.size ≤ 9223372036854775807) (hC : ∀ W, Below K w W → Kd.string.C W A l.length l) :
    Calls Tryz.prog 118 #[.pointer (some ⟨K, 0, none⟩), .slice A n c] w fun e w' => e = .returned (.tuple #[]) ∧ CtTo K w (txtsC v l) w' := by
  subst hn
  have HC := Aside0.mk hC
  have HS := Aside0.mk hs
  have HL := Aside0.mk hl
  have HV := Aside0.mk (show CtTo K w v w from CtTo.refl h)
  clear h hC hs hl
  go_enter Tryz.func118, Tryz.ntmps118
  go_wp2_with fail
  go_loopg [4] l.length (fun q i wr => ∃ (k : Nat) (v1 : Int), i = .int .i64 (k : Int) ∧ k + q = l.length ∧ Aside0 (CtTo K w v1 wr) ∧ Aside0 (txtsC v1 (l.drop k) = txtsC v l))
  case atStart => exact ⟨0, v, rfl, by omega, HV, ⟨rfl⟩⟩
  case round =>
    obtain ⟨k, v1, rfl, hkq, HR, HE⟩ := hrel
    clear HV
    rcases Nat.lt_or_ge k l.length with hk | hk
    · have t0 : decide ((k : Int) < (l.length : Int)) = true := decide_eq_true (by omega)
      have hkl := HL.out
      have ek : wrap64 ((k : Int) + 1) = (k : Int) + 1 := by unfold wrap64; omega
      obtain ⟨q1, rfl⟩ : ∃ q1, gk = q1 + 1 := ⟨gk - 1, by omega⟩
      by_cases hv : 0 ≤ v1
      · have tv : decide (0 ≤ v1) = true := decide_eq_true hv
        have hCw := HC.out _ HR.out.bel
        obtain ⟨ad, hA1, hcell⟩ := Kd.at_string hCw (k : Int) (by omega) (by omega)
        subst hA1
        rw [Int.toNat_natCast] at hcell
        have hx : rdOf ByteArray.empty l (k : Int) = l[k] := by unfold rdOf; rw [Int.toNat_natCast, List.getD_eq_getElem?_getD, List.getElem?_eq_getElem hk]; rfl
        rw [hx] at hcell
        clear hx hCw
        have HFS := Aside0.mk (HS.out l[k] (List.getElem_mem hk))
        have HE2 := Aside0.mk (show txtsC (tadd v1 l[k].size) (l.drop (k + 1)) = txtsC v l by
          have := HE.out
          rw [List.drop_eq_getElem_cons hk] at this
          exact this)
        generalize l[k] = a at *
        have hlt : ((k : Int) < (l.length : Int)) := by omega
        have h0 : (0 : Int) ≤ (k : Int) := by omega
        have HKQ := Aside0.mk hkq
        clear hkq hk hkl hv
        go_wp2_with (first
          | (go_at_call 39; (with_reducible refine (cok_any HR.out.ct).mono ?_); rintro e w5 ⟨rfl, rfl⟩)
          | (go_at_call 113; (with_reducible refine (ctxt_any HR.out.ct a HFS.out).mono ?_); rintro e w6 ⟨rfl, hC6⟩; have H6 := Aside0.mk (HR.out.trans hC6); clear hC6))
        go_roundg q1
        case measure => exact Nat.lt_succ_self _
        case rel => exact ⟨k + 1, _, by rw [show (((k + 1 : Nat) : Int)) = (k : Int) + 1 by omega]; try rw [ek], by have := HKQ.out; omega, H6, HE2⟩
      · have tv : decide (0 ≤ v1) = false := decide_eq_false hv
        have HF := Aside0.mk (show txtsC v l = v1 by rw [← HE.out]; exact txtsC_neg _ (by omega))
        have hlt : ((k : Int) < (l.length : Int)) := by omega
        have h0 : (0 : Int) ≤ (k : Int) := by omega
        clear hkq hkl hv
        go_wp2_with (go_at_call 39; (with_reducible refine (cok_any HR.out.ct).mono ?_); rintro e w5 ⟨rfl, rfl⟩)
        all_goals first
          | (exfalso; omega)
          | (go_end0; exact ⟨rfl, by rw [HF.out]; exact HR.out⟩)
    · have t0 : decide ((k : Int) < (l.length : Int)) = false := decide_eq_false (by omega)
      have t0n : decide (k < l.length) = false := decide_eq_false (by omega)
      have HF := Aside0.mk (show txtsC v l = v1 by rw [← HE.out, List.drop_eq_nil_of_le hk]; rfl)
      clear hkq hk
      go_wp2
      go_end0
      exact ⟨rfl, by rw [HF.out]; exact HR.out⟩
theorem range4 {W : World} {Q o : Nat} {L : List Value} {a b c d : Value} (h : ∀ j, W.cell? ⟨Q, j, none⟩ = L[j]?) (h0 : L[o]? = some a) (h1 : L[o + 1]? = some b) (h2 : L[o + 2]? = some c) (h3 : L[o + 3]? = some d) : W.rangeAt Q o [a, b, c, d] := by
  intro j v hv
  rcases j with _ | _ | _ | _ | j
  · simp at hv; subst hv; exact (h _).trans h0
  · simp at hv; subst hv; exact (h _).trans h1
  · simp at hv; subst hv; exact (h _).trans h2
  · simp at hv; subst hv; exact (h _).trans h3
  · simp at hv
theorem many_any (n : Int) (w : World) (h0 : 0 ≤ n) (h1 : n ≤ 1000000) : Calls Tryz.prog 37 #[.int .i64 n] w fun e w' => e = .returned (.pointer (some ⟨w.heap.size, 0, none⟩)) ∧ CtIs w.heap.size n w' ∧ Below w.heap.size w w' := by
  have HR := Aside0.mk (And.intro h0 h1)
  go_enter Tryz.func37, Tryz.ntmps37
  go_wp2
  go_ret
  exact ⟨rfl, ⟨heap_alloc_new w _, by have := HR.out; omega, HR.out.2⟩, below_alloc (Below.refl _ _) _⟩
end Go.Proofs.YthlbcgaegaoanaaGreatDoor.Cr

namespace Go.Proofs.YthlbcgaegaoanaaGreatDoor.Cr
open Go Go.RowKit Go.Proofs.YthlbcgaegaoanaaGreatDoorW.PrintWords Go.Proofs.YthlbcgaegaoanaaGreatDoorW.PrintLast Go.Proofs.YthlbcgaegaoanaaGreatDoorW.PrintMore Go.Proofs.YthlbcgaegaoanaaGreatDoor.Kinds Go.Proofs.YthlbcgaegaoanaaGreatDoor.Utf Go.Proofs.YthlbcgaegaoanaaGreatDoor.Chk Go.Proofs.YthlbcgaegaoanaaGreatDoor.Rdr
set_option linter.unusedVariables false
set_option linter.unusedSimpArgs false
theorem CtTo.block {K : Nat} {w w1 : World} {v : Int} (h : CtTo K w v w1) {Q : Nat} {o : Obj} (hQ : w.heap[Q]? = some o) (hn : Q ≠ K) : w1.heap[Q]? = some o := (h.fr.block Q (blk_lt hQ) hn).trans hQ
def msgC (v : Int) (m : Msg) : Int := tadd (tadd v m.topic.size) m.payload.length
theorem cmsg_any {K : Nat} {v : Int} {w : World} (h : CtIs K v w) (m : Msg) (A : Option Addr) (n c : Nat) (hn : n = m.payload.length) (ht : m.topic.size ≤ 9223372036854775807) (hp : m.payload.length ≤ 9223372036854775807) :
    Calls Tryz.prog 115 #[.pointer (some ⟨K, 0, none⟩), .agg #[.string m.topic, .slice A n c, .int .i64 m.qos, .bool m.retain]] w fun e w' => e = .returned (.tuple #[]) ∧ CtTo K w (msgC v m) w' := by
  subst hn
  obtain ⟨t, d, q, r⟩ := m
  obtain ⟨X, hX⟩ : ∃ X : World, X = w.alloc (.cells #[.string t, .slice A d.length c, .int .i64 q, .bool r] 34) := ⟨_, rfl⟩
  have hk : K < w.heap.size := blk_lt h.1
  have hq : X.heap[w.heap.size]? = some (.cells #[.string t, .slice A d.length c, .int .i64 q, .bool r] 34 (0, 0)) := by rw [hX]; exact heap_alloc_new w _
  have hbx : Below w.heap.size w X := by rw [hX]; exact below_alloc (Below.refl _ _) _
  have HF := Aside0.mk (show CtTo K w v X from ⟨h.below hbx, hbx.mono (Nat.le_of_lt hk), Fr.of_below _ hbx⟩)
  have HQ := Aside0.mk hq
  have HNE := Aside0.mk (show w.heap.size ≠ K by omega)
  have HX := Aside0.mk hX
  have x0 : X.cell? ⟨w.heap.size, 0, none⟩ = some (.string t) := blk_cell hq 0
  have HT := Aside0.mk ht
  have HP := Aside0.mk hp
  clear h hX hbx hq hk ht hp
  go_enter Tryz.func115, Tryz.ntmps115
  go_upto_region 1 with fail
  refine wp_wld (w2 := X) (by rw [HX.out]) ?_
  clear HX
  go_wp2_with (first
    | (go_at_call 113; (with_reducible refine (ctxt_any HF.out.ct t HT.out).mono ?_); rintro e w1 ⟨rfl, hC⟩; have H1 := Aside0.mk (And.intro hC (hC.block HQ.out HNE.out)); have x1 : w1.cell? ⟨w.heap.size, 1, none⟩ = some (.slice A d.length c) := blk_cell H1.out.2 1; clear hC x0)
    | (go_at_call 114; (with_reducible refine (cbyt_any H1.out.1.ct A d.length c HP.out).mono ?_); rintro e w2 ⟨rfl, hC⟩; have H2 := Aside0.mk hC; clear hC x1))
  go_end0
  exact ⟨rfl, HF.out.trans (H1.out.1.trans H2.out)⟩
structure PFits (p : Pkt) : Prop where
  client : p.client.size ≤ 9223372036854775807
  user : p.user.size ≤ 9223372036854775807
  pass : p.pass.length ≤ 9223372036854775807
  wtop : p.will.topic.size ≤ 9223372036854775807
  wpay : p.will.payload.length ≤ 9223372036854775807
  mtop : p.msg.topic.size ≤ 9223372036854775807
  mpay : p.msg.payload.length ≤ 9223372036854775807
  asks : p.asks.length ≤ 9223372036854775807
  askN : ∀ a ∈ p.asks, a.filter.size ≤ 9223372036854775807
  codes : p.codes.length ≤ 9223372036854775807
  fils : p.filters.length ≤ 9223372036854775807
  filN : ∀ a ∈ p.filters, a.size ≤ 9223372036854775807
def pktC (v : Int) (p : Pkt) : Int := txtsC (addP (asksC (msgC (msgC (tadd (tadd (tadd v p.client.size) p.user.size) p.pass.length) p.will) p.msg) p.asks) p.codes.length) p.filters
set_option maxRecDepth 100000 in
set_option maxHeartbeats 4000000 in
theorem cpkt_any {K : Nat} {v : Int} {w : World} (h : CtIs K v w) (p : Pkt) (cs : List Value) (hf : PFits p) (hC : ∀ W, Below K w W → kPkt.K W p cs) :
    Calls Tryz.prog 77 #[.pointer (some ⟨K, 0, none⟩), .agg cs.toArray] w fun e w' => e = .returned (.tuple #[]) ∧ CtTo K w (pktC v p) w' := by
  obtain ⟨Aw, nw, Ap, np, Am, nm, Aa, na, Ac, nc, Af, nf, hcs, _⟩ := pkt_K (hC w (Below.refl _ _))
  have hk : K < w.heap.size := blk_lt h.1
  obtain ⟨X, hX⟩ : ∃ X : World, X = w.alloc (.cells cs.toArray 38) := ⟨_, rfl⟩
  have hbx : Below w.heap.size w X := by rw [hX]; exact below_alloc (Below.refl w.heap.size w) _
  have hq : X.heap[w.heap.size]? = some (.cells cs.toArray 38 (0, 0)) := by rw [hX]; exact heap_alloc_new w _
  have HF := Aside0.mk (show CtTo K w v X from ⟨h.below hbx, hbx.mono (Nat.le_of_lt hk), Fr.of_below _ hbx⟩)
  have HPF := Aside0.mk hf
  have HX := Aside0.mk hX
  have HNE := Aside0.mk (show w.heap.size ≠ K by omega)
  have HMS := Aside0.mk (show (Tryz.prog.info? 34).map (·.size) = some 4 from by kernel_rfl)
  -- what the packet's block holds at every world that is reached
  have HQ := Aside0.mk (show ∀ (u : Int) (W : World), CtTo K w u W → W.heap[w.heap.size]? = some (.cells cs.toArray 38 (0, 0)) → ∀ (u2 : Int) (W2 : World), CtTo K W u2 W2 → W2.heap[w.heap.size]? = some (.cells cs.toArray 38 (0, 0)) from fun u W _ hb u2 W2 h2 => h2.block hb (by omega))
  have HPC := Aside0.mk (show ∀ W : World, W.heap[w.heap.size]? = some (.cells cs.toArray 38 (0, 0)) → ∀ j, W.cell? ⟨w.heap.size, j, none⟩ = (pktCells p (.slice Aw p.will.payload.length nw) (.slice Ap p.pass.length np) (.slice Am p.msg.payload.length nm) (.slice Aa p.asks.length na) (.slice Ac p.codes.length nc) (.slice Af p.filters.length nf))[j]? from fun W hb => pkt_block hb hcs)
  have HKA := Aside0.mk (show ∀ W : World, Below K w W → kAsk.C W Aa p.asks.length p.asks ∧ Kd.string.C W Af p.filters.length p.filters from fun W hb => by
    obtain ⟨Aw', nw', Ap', np', Am', nm', Aa', na', Ac', nc', Af', nf', hcs', _, _, _, hA, _, hF⟩ := pkt_K (hC W hb)
    rw [hcs] at hcs'
    simp only [pktCells, List.cons.injEq, Value.slice.injEq] at hcs'
    obtain ⟨_, _, _, _, _, _, _, _, _, _, _, _, _, _, _, _, _, _, _, _, _, _, ⟨e1, _⟩, _, ⟨e2, _⟩, _⟩ := hcs'
    rw [e1, e2]
    exact ⟨hA.2, hF.2⟩)
  have H0 := Aside0.mk (And.intro HF.out hq)
  have x4 : X.cell? ⟨w.heap.size, 4, none⟩ = some (.string p.client) := HPC.out X hq 4
  clear h hX hbx hq hk hf hC hcs
  go_enter Tryz.func77, Tryz.ntmps77
  go_upto_region 1 with fail
  refine wp_wld (w2 := X) (by rw [HX.out]) ?_
  clear HX
  go_wp2_with (first
    | (refine wpList_load_midF (by rfl) 34 (.tmp 17) rfl w.heap.size 6 rfl [.string p.will.topic, .slice Aw p.will.payload.length nw, .int .i64 p.will.qos, .bool p.will.retain] _ hr8 Tryz.underlying34 rfl HMS.out ?_)
    | (refine wpList_load_midF (by rfl) 34 (.tmp 21) rfl w.heap.size 17 rfl [.string p.msg.topic, .slice Am p.msg.payload.length nm, .int .i64 p.msg.qos, .bool p.msg.retain] _ hr8 Tryz.underlying34 rfl HMS.out ?_)
    | (go_at_call 118; (with_reducible refine (ctxts_any H7.out.1.ct p.filters Af p.filters.length nf rfl HPF.out.fils HPF.out.filN (fun W hb => (HKA.out W (H7.out.1.bel.trans hb)).2)).mono ?_); rintro e w8 ⟨rfl, hC⟩; have H8 := Aside0.mk (And.intro (H7.out.1.trans hC) (HQ.out _ _ H7.out.1 H7.out.2 _ _ hC)); clear hC x8; skip)
    | (go_at_call 117; (with_reducible refine (cadd_any H6.out.1.ct (p.codes.length : Int) (by omega) (by have := HPF.out.codes; omega)).mono ?_); rintro e w7 ⟨rfl, hC⟩; have H7 := Aside0.mk (And.intro (H6.out.1.trans hC) (HQ.out _ _ H6.out.1 H6.out.2 _ _ hC)); clear hC x8; have x8 : w7.cell? ⟨w.heap.size, 24, none⟩ = some (.slice Af p.filters.length nf) := HPC.out _ H7.out.2 24)
    | (go_at_call 116; (with_reducible refine (casks_any H5.out.1.ct p.asks Aa p.asks.length na rfl HPF.out.asks HPF.out.askN (fun W hb => (HKA.out W (H5.out.1.bel.trans hb)).1)).mono ?_); rintro e w6 ⟨rfl, hC⟩; have H6 := Aside0.mk (And.intro (H5.out.1.trans hC) (HQ.out _ _ H5.out.1 H5.out.2 _ _ hC)); clear hC x8; have x8 : w6.cell? ⟨w.heap.size, 23, none⟩ = some (.slice Ac p.codes.length nc) := HPC.out _ H6.out.2 23)
    | (go_at_call 115; (with_reducible refine (cmsg_any H4.out.1.ct p.msg Am p.msg.payload.length nm rfl HPF.out.mtop HPF.out.mpay).mono ?_); rintro e w5 ⟨rfl, hC⟩; have H5 := Aside0.mk (And.intro (H4.out.1.trans hC) (HQ.out _ _ H4.out.1 H4.out.2 _ _ hC)); clear hC hr8; have x8 : w5.cell? ⟨w.heap.size, 22, none⟩ = some (.slice Aa p.asks.length na) := HPC.out _ H5.out.2 22)
    | (go_at_call 115; (with_reducible refine (cmsg_any H3.out.1.ct p.will Aw p.will.payload.length nw rfl HPF.out.wtop HPF.out.wpay).mono ?_); rintro e w4 ⟨rfl, hC⟩; have H4 := Aside0.mk (And.intro (H3.out.1.trans hC) (HQ.out _ _ H3.out.1 H3.out.2 _ _ hC)); clear hC hr8; have hr8 : w4.rangeAt w.heap.size 17 [.string p.msg.topic, .slice Am p.msg.payload.length nm, .int .i64 p.msg.qos, .bool p.msg.retain] := range4 (HPC.out _ H4.out.2) rfl rfl rfl rfl)
    | (go_at_call 114; (with_reducible refine (cbyt_any H2.out.1.ct Ap p.pass.length np HPF.out.pass).mono ?_); rintro e w3 ⟨rfl, hC⟩; have H3 := Aside0.mk (And.intro (H2.out.1.trans hC) (HQ.out _ _ H2.out.1 H2.out.2 _ _ hC)); clear hC x8; have hr8 : w3.rangeAt w.heap.size 6 [.string p.will.topic, .slice Aw p.will.payload.length nw, .int .i64 p.will.qos, .bool p.will.retain] := range4 (HPC.out _ H3.out.2) rfl rfl rfl rfl)
    | (go_at_call 113; (with_reducible refine (ctxt_any H1.out.1.ct p.user HPF.out.user).mono ?_); rintro e w2 ⟨rfl, hC⟩; have H2 := Aside0.mk (And.intro (H1.out.1.trans hC) (HQ.out _ _ H1.out.1 H1.out.2 _ _ hC)); clear hC x8; have x8 : w2.cell? ⟨w.heap.size, 13, none⟩ = some (.slice Ap p.pass.length np) := HPC.out _ H2.out.2 13)
    | (go_at_call 113; (with_reducible refine (ctxt_any H0.out.1.ct p.client HPF.out.client).mono ?_); rintro e w1 ⟨rfl, hC⟩; have H1 := Aside0.mk (And.intro (H0.out.1.trans hC) (HQ.out _ _ H0.out.1 H0.out.2 _ _ hC)); clear hC x4; have x8 : w1.cell? ⟨w.heap.size, 11, none⟩ = some (.string p.user) := HPC.out _ H1.out.2 11))
  go_end0
  exact ⟨rfl, H8.out.1⟩
set_option maxRecDepth 100000 in
theorem few3_any {w : World} (p : Pkt) (cs : List Value) (hk : kPkt.K w p cs) (hf : PFits p) :
    Calls Tryz.prog 33 #[.agg cs.toArray] w fun e w' => e = .returned (.bool (decide (0 ≤ pktC 150000 p))) ∧ Below w.heap.size w w' := by
  obtain ⟨X, hX⟩ : ∃ X : World, X = w.alloc (.cells cs.toArray 38) := ⟨_, rfl⟩
  have hbx : Below w.heap.size w X := by rw [hX]; exact below_alloc (Below.refl w.heap.size w) _
  have hq : X.heap[w.heap.size]? = some (.cells cs.toArray 38 (0, 0)) := by rw [hX]; exact heap_alloc_new w _
  have HBX := Aside0.mk hbx
  have HQ := Aside0.mk hq
  have HX := Aside0.mk hX
  have HK := Aside0.mk hk
  have HF := Aside0.mk hf
  have HSZ := Aside0.mk (pkt_szA hk)
  clear hX hbx hq hk hf
  go_enter Tryz.func33, Tryz.ntmps33
  go_upto_region 1 with fail
  refine wp_wld (w2 := X) (by rw [HX.out]) ?_
  clear HX
  go_upto_region 2 with (go_at_call 37; (with_reducible refine (many_any 150000 X (by decide) (by decide)).mono ?_); rintro e w1 ⟨rfl, hC, hB⟩; have H1 := Aside0.mk (And.intro hC (And.intro hB ((hB.block _ (blk_lt HQ.out)).trans HQ.out))); clear hC hB)
  go_wp2_with (first
    | (refine wpList_load_row rfl 38 _ rfl w.heap.size rfl 38 _ (0, 0) _ H1.out.2.2 Tryz.underlying38 rfl HSZ.out ?_)
    | (go_at_call 77; (with_reducible refine (cpkt_any H1.out.1 p cs HF.out (fun W hb => kPkt.K_below (HBX.out.trans ((H1.out.2.1.mono HBX.out.size).trans (hb.mono HBX.out.size))) HK.out)).mono ?_); rintro e w2 ⟨rfl, hC⟩; have H2 := Aside0.mk hC; clear hC)
    | (go_at_call 39; (with_reducible refine (cok_any H2.out.ct).mono ?_); rintro e w3 ⟨rfl, rfl⟩))
  go_ret
  exact ⟨rfl, HBX.out.trans ((H1.out.2.1.mono HBX.out.size).trans (H2.out.bel.mono HBX.out.size))⟩
end Go.Proofs.YthlbcgaegaoanaaGreatDoor.Cr

namespace Go.Proofs.YthlbcgaegaoanaaGreatDoor.Cr
open Go Go.RowKit Go.Proofs.YthlbcgaegaoanaaGreatDoorW.PrintWords Go.Proofs.YthlbcgaegaoanaaGreatDoorW.PrintLast Go.Proofs.YthlbcgaegaoanaaGreatDoorW.PrintMore Go.Proofs.YthlbcgaegaoanaaGreatDoor.Kinds Go.Proofs.YthlbcgaegaoanaaGreatDoor.Utf Go.Proofs.YthlbcgaegaoanaaGreatDoor.Chk Go.Proofs.YthlbcgaegaoanaaGreatDoor.Rdr
set_option linter.unusedVariables false
set_option linter.unusedSimpArgs false
theorem addP_le {v n : Int} (hn : 0 ≤ n) (h : 0 ≤ addP v n) : 0 ≤ v ∧ addP v n ≤ v - n := by unfold addP at *; split at h <;> simp_all <;> omega
theorem tadd_le {v n : Int} (hn : 0 ≤ n) (h : 0 ≤ tadd v n) : 0 ≤ v ∧ tadd v n ≤ v - n - 1 := by
  unfold tadd at *
  have h1 := addP_le hn h
  have h2 := addP_le (by decide) h1.1
  omega
theorem asksC_le : ∀ (l : List AskV) {v : Int}, 0 ≤ asksC v l → 0 ≤ v ∧ asksC v l ≤ v - l.length
  | [], v, h => ⟨h, by simp [asksC]⟩
  | a :: l, v, h => by
    simp only [asksC] at *
    have h1 := asksC_le l h
    have h2 := tadd_le (Int.natCast_nonneg _) h1.1
    simp only [List.length_cons]
    omega
theorem txtsC_le : ∀ (l : List ByteArray) {v : Int}, 0 ≤ txtsC v l → 0 ≤ v ∧ txtsC v l ≤ v - l.length
  | [], v, h => ⟨h, by simp [txtsC]⟩
  | a :: l, v, h => by
    simp only [txtsC] at *
    have h1 := txtsC_le l h
    have h2 := tadd_le (Int.natCast_nonneg _) h1.1
    simp only [List.length_cons]
    omega
theorem msgC_le {m : Msg} {v : Int} (h : 0 ≤ msgC v m) : 0 ≤ v ∧ msgC v m ≤ v - m.payload.length := by
  unfold msgC at *
  have h1 := tadd_le (Int.natCast_nonneg _) h
  have h2 := tadd_le (Int.natCast_nonneg _) h1.1
  omega
theorem few_sizes {p : Pkt} {v : Int} (h : 0 ≤ pktC v p) : (p.asks.length : Int) ≤ v ∧ (p.filters.length : Int) ≤ v ∧ (p.codes.length : Int) ≤ v ∧ (p.msg.payload.length : Int) ≤ v := by
  unfold pktC at h
  have h1 := txtsC_le _ h
  have h2 := addP_le (Int.natCast_nonneg _) h1.1
  have h3 := asksC_le _ h2.1
  have h4 := msgC_le h3.1
  have h5 := msgC_le h4.1
  have h6 := tadd_le (Int.natCast_nonneg _) h5.1
  have h7 := tadd_le (Int.natCast_nonneg _) h6.1
  have h8 := tadd_le (Int.natCast_nonneg _) h7.1
  omega
set_option maxRecDepth 100000 in
theorem Length_any {w : World} (hg : Gl w) (p : Pkt) (cs : List Value) (h : kPkt.K w p cs) (ha : p.asks.length ≤ 1099511627776) (hfl : p.filters.length ≤ 1099511627776) (hcl : p.codes.length ≤ 1099511627776) :
    Calls Tryz.prog 35 #[.agg cs.toArray] w fun e w' => e = .returned (.int .i64 (if pchk p = 0 then lenP p else 0)) ∧ Below w.heap.size w w' := by
  obtain ⟨X, hX⟩ : ∃ X : World, X = w.alloc (.cells cs.toArray 38) := ⟨_, rfl⟩
  have hbx : Below w.heap.size w X := by rw [hX]; exact below_alloc (Below.refl w.heap.size w) _
  have HBX := Aside0.mk hbx
  have HQ := Aside0.mk (show X.heap[w.heap.size]? = some (.cells cs.toArray 38 (0, 0)) by rw [hX]; exact heap_alloc_new w _)
  have HG := Aside0.mk (hg.below hbx hg.sz hbx.size)
  have HK := Aside0.mk (kPkt.K_below hbx h)
  have HSZ := Aside0.mk (pkt_szA h)
  have HX := Aside0.mk hX
  have HP := Aside0.mk (show pchk p = 0 → 1 ≤ p.kind ∧ p.kind ≤ 14 from fun e => ⟨(pchk_right e).k1, (pchk_right e).k14⟩)
  obtain ⟨e0, he0⟩ : ∃ e0, e0 = pchk p := ⟨_, rfl⟩
  rw [← he0] at HP ⊢
  have HE := Aside0.mk he0
  obtain ⟨r0, hr0⟩ : ∃ r0 : Int, r0 = (if e0 = 0 then lenP p else 0) := ⟨_, rfl⟩
  rw [← hr0]
  have HR0 := Aside0.mk hr0
  clear hX hbx hg h he0 hr0
  go_enter Tryz.func35, Tryz.ntmps35
  go_upto_region 1 with fail
  refine wp_wld (w2 := X) (by rw [HX.out]) ?_
  clear HX
  by_cases hz : e0 = 0
  · subst hz
    have HP2 := Aside0.mk (HP.out rfl)
    have HR2 := Aside0.mk (show r0 = lenP p by rw [HR0.out, if_pos rfl])
    clear HP HR0
    go_wp2_with (first
      | (refine wpList_load_row rfl 38 _ rfl w.heap.size rfl 38 _ (0, 0) _ HQ.out Tryz.underlying38 rfl HSZ.out ?_)
      | (have hw2 := HQ2.out; refine wpList_load_row rfl 38 _ rfl w.heap.size rfl 38 _ (0, 0) _ hw2 Tryz.underlying38 rfl HSZ.out ?_; clear hw2)
      | (go_at_call 28; (with_reducible refine (pcheck_any HG.out p cs HK.out ha hfl hcl).mono ?_); rintro e w1 ⟨rfl, hB⟩; rw [← HE.out]; have HB1 := Aside0.mk hB; have HQ2 := Aside0.mk ((hB.block _ (blk_lt HQ.out)).trans HQ.out); clear hB HQ)
      | (go_at_call 73; (with_reducible refine (length_any (HG.out.below HB1.out HG.out.sz HB1.out.size) p cs (kPkt.K_below HB1.out HK.out) HP2.out.1 HP2.out.2 ha hfl).mono ?_); rintro e w2 ⟨rfl, hB⟩; have HB2 := Aside0.mk (HB1.out.trans (hB.mono HB1.out.size)); clear hB))
    go_ret
    exact ⟨by rw [HR2.out]; rfl, HBX.out.trans (HB2.out.mono HBX.out.size)⟩
  · have tz : (e0 != 0) = true := by simpa using hz
    have HR2 := Aside0.mk (show r0 = 0 by rw [HR0.out, if_neg hz])
    clear hz HP HR0
    go_wp2_with (first
      | (refine wpList_load_row rfl 38 _ rfl w.heap.size rfl 38 _ (0, 0) _ HQ.out Tryz.underlying38 rfl HSZ.out ?_)
      | (go_at_call 28; (with_reducible refine (pcheck_any HG.out p cs HK.out ha hfl hcl).mono ?_); rintro e w1 ⟨rfl, hB⟩; rw [← HE.out]; have HB1 := Aside0.mk hB; clear hB))
    go_ret
    exact ⟨by rw [HR2.out]; rfl, HBX.out.trans (HB1.out.mono HBX.out.size)⟩
theorem len_bound {p : Pkt} (hR : Right p) (ha : p.asks.length ≤ 1099511627776) (hfl : p.filters.length ≤ 1099511627776) (hcl : p.codes.length ≤ 1099511627776) (hm : p.msg.payload.length ≤ 1099511627776) : lenP p = (fldE p).length ∧ (fldE p).length ≤ 268435455 := by
  have h := len_fld hR ha hfl hcl hm
  have := hR.len
  exact ⟨h, by omega⟩
theorem encE_len {p : Pkt} (h : (fldE p).length ≤ 268435455) : ((encE p).length : Int) = 1 + (encL 5 (lenCl ((fldE p).length : Int))).length + (fldE p).length := by
  have e : lenCl ((fldE p).length : Int) = (fldE p).length := by unfold lenCl; rw [if_neg (by omega), if_neg (by omega)]
  rw [e, encL_lenE 5 _ (by omega)]
  unfold encE
  simp only [List.length_cons, List.length_append]
  omega
theorem encL_small : ∀ (f : Nat) (n : Int), (encL f n).length ≤ f + 1
  | 0, n => by simp [encL]
  | f + 1, n => by
    simp only [encL]
    split
    · have := encL_small f (n / 128)
      simp only [List.length_cons]; omega
    · simp
set_option maxRecDepth 100000 in
theorem Size_any {w : World} (hg : Gl w) (p : Pkt) (cs : List Value) (h : kPkt.K w p cs) (ha : p.asks.length ≤ 1099511627776) (hfl : p.filters.length ≤ 1099511627776) (hcl : p.codes.length ≤ 1099511627776) (hm : p.msg.payload.length ≤ 1099511627776) :
    Calls Tryz.prog 34 #[.agg cs.toArray] w fun e w' => e = .returned (.int .i64 (if pchk p = 0 then (encE p).length else 0)) ∧ Below w.heap.size w w' := by
  obtain ⟨X, hX⟩ : ∃ X : World, X = w.alloc (.cells cs.toArray 38) := ⟨_, rfl⟩
  have hbx : Below w.heap.size w X := by rw [hX]; exact below_alloc (Below.refl w.heap.size w) _
  have HBX := Aside0.mk hbx
  have HQ := Aside0.mk (show X.heap[w.heap.size]? = some (.cells cs.toArray 38 (0, 0)) by rw [hX]; exact heap_alloc_new w _)
  have HG := Aside0.mk (hg.below hbx hg.sz hbx.size)
  have HK := Aside0.mk (kPkt.K_below hbx h)
  have HSZ := Aside0.mk (pkt_szA h)
  have HX := Aside0.mk hX
  have HP := Aside0.mk (show pchk p = 0 → lenP p = (fldE p).length ∧ (fldE p).length ≤ 268435455 from fun e => len_bound (pchk_right e) ha hfl hcl hm)
  obtain ⟨e0, he0⟩ : ∃ e0, e0 = pchk p := ⟨_, rfl⟩
  rw [← he0] at HP ⊢
  have HE := Aside0.mk he0
  obtain ⟨r0, hr0⟩ : ∃ r0 : Int, r0 = (if e0 = 0 then ((encE p).length : Int) else 0) := ⟨_, rfl⟩
  rw [← hr0]
  have HR0 := Aside0.mk hr0
  clear hX hbx hg h he0 hr0
  go_enter Tryz.func34, Tryz.ntmps34
  go_upto_region 1 with fail
  refine wp_wld (w2 := X) (by rw [HX.out]) ?_
  clear HX
  by_cases hz : e0 = 0
  · subst hz
    have HP2 := Aside0.mk (HP.out rfl)
    have HR2 := Aside0.mk (show r0 = ((encE p).length : Int) by rw [HR0.out, if_pos rfl])
    clear HP HR0
    obtain ⟨n, hn⟩ : ∃ n, n = lenP p := ⟨_, rfl⟩
    obtain ⟨L, hL⟩ : ∃ L, L = encL 5 (lenCl n) := ⟨_, rfl⟩
    have HN := Aside0.mk hn
    have HLL := Aside0.mk (show L = [] ++ encL 5 (lenCl n) from hL)
    have HEN := Aside0.mk (show ((encE p).length : Int) = 1 + L.length + n by rw [encE_len HP2.out.2, ← HP2.out.1, ← hn, hL])
    have hb1 : (L.length : Int) ≤ 6 := by rw [hL]; have := encL_small 5 (lenCl n); omega
    have hb2 : 0 ≤ n ∧ n ≤ 268435455 := by have := HP2.out; omega
    have w1 : wrap64 (1 + (L.length : Int)) = 1 + (L.length : Int) := by unfold wrap64; omega
    have w2 : wrap64 (1 + (L.length : Int) + n) = 1 + (L.length : Int) + n := by unfold wrap64; omega
    clear hn hL
    go_wp2_with (first
      | (refine wpList_load_row rfl 38 _ rfl w.heap.size rfl 38 _ (0, 0) _ HQ.out Tryz.underlying38 rfl HSZ.out ?_)
      | (go_at_call 28; (with_reducible refine (pcheck_any HG.out p cs HK.out ha hfl hcl).mono ?_); rintro e w1 ⟨rfl, hB⟩; rw [← HE.out]; have HB1 := Aside0.mk hB; have HQ2 := Aside0.mk ((hB.block _ (blk_lt HQ.out)).trans HQ.out); clear hB HQ)
      | (have hw2 := HQ2.out; refine wpList_load_row rfl 38 _ rfl w.heap.size rfl 38 _ (0, 0) _ hw2 Tryz.underlying38 rfl HSZ.out ?_; clear hw2)
      | (go_at_call 35; (with_reducible refine (Length_any (HG.out.below HB1.out HG.out.sz HB1.out.size) p cs (kPkt.K_below HB1.out HK.out) ha hfl hcl).mono ?_); rintro e w2 ⟨rfl, hB⟩; rw [← HE.out, if_pos rfl, ← HN.out]; have HB2 := Aside0.mk (HB1.out.trans (hB.mono HB1.out.size)); clear hB)
      | (go_at_call 75; refine (putLength_any [] n none 0 _ (Kd.C_nil _ _) (by decide) L HLL.out).mono ?_; rintro e w3 ⟨v3, rfl, hR, hB⟩; obtain ⟨A5, c5, rfl, hc5, hC5⟩ := Kd.R_reads hR; have HB3 := Aside0.mk (HB2.out.trans (hB.mono HB2.out.size)); clear hR hB hc5 hC5))
    go_ret
    exact ⟨by rw [HR2.out, HEN.out]; rfl, HBX.out.trans (HB3.out.mono HBX.out.size)⟩
  · have tz : (e0 != 0) = true := by simpa using hz
    have HR2 := Aside0.mk (show r0 = 0 by rw [HR0.out, if_neg hz])
    clear hz HP HR0
    go_wp2_with (first
      | (refine wpList_load_row rfl 38 _ rfl w.heap.size rfl 38 _ (0, 0) _ HQ.out Tryz.underlying38 rfl HSZ.out ?_)
      | (go_at_call 28; (with_reducible refine (pcheck_any HG.out p cs HK.out ha hfl hcl).mono ?_); rintro e w1 ⟨rfl, hB⟩; rw [← HE.out]; have HB1 := Aside0.mk hB; clear hB))
    go_ret
    exact ⟨by rw [HR2.out]; rfl, HBX.out.trans (HB1.out.mono HBX.out.size)⟩
end Go.Proofs.YthlbcgaegaoanaaGreatDoor.Cr

namespace Go.Proofs.YthlbcgaegaoanaaGreatDoor.Cr
open Go Go.RowKit Go.Proofs.YthlbcgaegaoanaaGreatDoorW.PrintWords Go.Proofs.YthlbcgaegaoanaaGreatDoorW.PrintLast Go.Proofs.YthlbcgaegaoanaaGreatDoorW.PrintMore Go.Proofs.YthlbcgaegaoanaaGreatDoor.Kinds Go.Proofs.YthlbcgaegaoanaaGreatDoor.Utf Go.Proofs.YthlbcgaegaoanaaGreatDoor.Chk Go.Proofs.YthlbcgaegaoanaaGreatDoor.Rdr Go.Proofs.YthlbcgaegaoanaaGreatDoor.Opens
set_option linter.unusedVariables false
set_option linter.unusedSimpArgs false
theorem _root_.Go.Proofs.YthlbcgaegaoanaaGreatDoor.Opens.Opens.imp {P : Program} {α : Type} {d : Kd α} {G G' : α → Prop} {t : TypeId} (h : Opens P d G t) (hg : ∀ x, G x → G' x) : Opens P d G' t := by
  refine ⟨?_⟩
  intro H enc w base spare held fuel cs x hx
  obtain ⟨y, h1, h2⟩ := h.out _ enc w base spare held fuel cs x hx
  exact ⟨y, h1, hg y h2⟩
theorem wf_bytes {l : List Int} (hw : ∀ x ∈ l, (Lit.int .u8 x).wf = true) : Bytes l := fun x hx => by
  have h := hw x hx
  simp only [Lit.wf, Bool.and_eq_true, decide_eq_true_eq] at h
  have hmin : IntKind.u8.min = 0 := rfl
  have hmax : IntKind.u8.max = 255 := rfl
  omega
theorem opens_byt : Opens Tryz.prog kBytes (fun xs => xs.length ≤ 9223372036854775807 ∧ Bytes xs) 22 :=
  (opens_slice Tryz.underlying22 (by kernel_rfl) (opens_int Tryz.underlying5)).imp (fun x h => ⟨by have := h.1; unfold maxLen at this; omega, wf_bytes h.2⟩)
theorem opens_str : Opens Tryz.prog Kd.string (fun s => s.size ≤ 9223372036854775807) 9 :=
  (opens_string Tryz.underlying9).imp (fun x h => by unfold maxLen at h; omega)
theorem opens_msgC : Opens Tryz.prog kMsg (fun x => x.topic.size ≤ 9223372036854775807 ∧ x.payload.length ≤ 9223372036854775807 ∧ Bytes x.payload) 34 :=
  (opens_struct (fun x : Msg => (x.topic, x.payload, x.qos, x.retain)) (fun y => ⟨y.1, y.2.1, y.2.2.1, y.2.2.2⟩) (fun _ => rfl) Tryz.underlying34 (by kernel_rfl)
    (opensF_cons rfl (by kernel_rfl) opens_str (opensF_cons rfl (by kernel_rfl) opens_byt
      (opensF_cons rfl (by kernel_rfl) (opens_int Tryz.underlying3) (opensF_one rfl (by kernel_rfl) (opens_bool Tryz.underlying4)))))).imp (fun x h => ⟨h.1, h.2.1.1, h.2.1.2⟩)
theorem opens_ask : Opens Tryz.prog kAsk (fun x => x.filter.size ≤ 9223372036854775807) 124 :=
  (opens_struct (fun x : AskV => (x.filter, x.qos)) (fun y => ⟨y.1, y.2⟩) (fun _ => rfl) Tryz.underlying124 (by kernel_rfl)
    (opensF_cons rfl (by kernel_rfl) opens_str (opensF_one rfl (by kernel_rfl) (opens_int Tryz.underlying3)))).imp (fun x h => h.1)
theorem opens_asks : Opens Tryz.prog (Kd.slice 124 kAsk) (fun xs => xs.length ≤ 9223372036854775807 ∧ ∀ x ∈ xs, x.filter.size ≤ 9223372036854775807) 35 :=
  (opens_slice Tryz.underlying35 (by kernel_rfl) opens_ask).imp (fun x h => ⟨by have := h.1; unfold maxLen at this; omega, h.2⟩)
theorem opens_codes : Opens Tryz.prog (Kd.slice 3 (Kd.int .i64)) (fun xs => xs.length ≤ 9223372036854775807) 23 :=
  (opens_slice Tryz.underlying23 (by kernel_rfl) (opens_int Tryz.underlying3)).imp (fun x h => by have := h.1; unfold maxLen at this; omega)
theorem opens_fils : Opens Tryz.prog (Kd.slice 9 Kd.string) (fun xs => xs.length ≤ 9223372036854775807 ∧ ∀ x ∈ xs, x.size ≤ 9223372036854775807) 36 :=
  (opens_slice Tryz.underlying36 (by kernel_rfl) opens_str).imp (fun x h => ⟨by have := h.1; unfold maxLen at this; omega, h.2⟩)
theorem opens_pkt : Opens Tryz.prog kPkt (fun p => PFits p ∧ PB p) 38 :=
  (opens_struct (fun x : Pkt => (x.kind, x.level, x.clean, x.keep, x.client, x.hasWill, x.will, x.hasUser, x.user, x.hasPass, x.pass, x.present, x.code, x.dup, x.msg, x.id, x.asks, x.codes, x.filters))
    (fun y => ⟨y.1, y.2.1, y.2.2.1, y.2.2.2.1, y.2.2.2.2.1, y.2.2.2.2.2.1, y.2.2.2.2.2.2.1, y.2.2.2.2.2.2.2.1, y.2.2.2.2.2.2.2.2.1, y.2.2.2.2.2.2.2.2.2.1, y.2.2.2.2.2.2.2.2.2.2.1, y.2.2.2.2.2.2.2.2.2.2.2.1, y.2.2.2.2.2.2.2.2.2.2.2.2.1, y.2.2.2.2.2.2.2.2.2.2.2.2.2.1, y.2.2.2.2.2.2.2.2.2.2.2.2.2.2.1, y.2.2.2.2.2.2.2.2.2.2.2.2.2.2.2.1, y.2.2.2.2.2.2.2.2.2.2.2.2.2.2.2.2.1, y.2.2.2.2.2.2.2.2.2.2.2.2.2.2.2.2.2.1, y.2.2.2.2.2.2.2.2.2.2.2.2.2.2.2.2.2.2⟩) (fun _ => rfl) Tryz.underlying38 (by kernel_rfl)
    (opensF_cons rfl (by kernel_rfl) (opens_int Tryz.underlying3) (opensF_cons rfl (by kernel_rfl) (opens_int Tryz.underlying3) (opensF_cons rfl (by kernel_rfl) (opens_bool Tryz.underlying4) (opensF_cons rfl (by kernel_rfl) (opens_int Tryz.underlying3)
      (opensF_cons rfl (by kernel_rfl) opens_str (opensF_cons rfl (by kernel_rfl) (opens_bool Tryz.underlying4) (opensF_cons rfl (by kernel_rfl) opens_msgC (opensF_cons rfl (by kernel_rfl) (opens_bool Tryz.underlying4)
      (opensF_cons rfl (by kernel_rfl) opens_str (opensF_cons rfl (by kernel_rfl) (opens_bool Tryz.underlying4) (opensF_cons rfl (by kernel_rfl) opens_byt (opensF_cons rfl (by kernel_rfl) (opens_bool Tryz.underlying4)
      (opensF_cons rfl (by kernel_rfl) (opens_int Tryz.underlying3) (opensF_cons rfl (by kernel_rfl) (opens_bool Tryz.underlying4) (opensF_cons rfl (by kernel_rfl) opens_msgC (opensF_cons rfl (by kernel_rfl) (opens_int Tryz.underlying3)
      (opensF_cons rfl (by kernel_rfl) opens_asks (opensF_cons rfl (by kernel_rfl) opens_codes (opensF_one rfl (by kernel_rfl) opens_fils)))))))))))))))))))).imp (fun x h => by
    obtain ⟨_, _, _, _, h4, _, h6, _, h8, _, h10, _, _, _, h14, _, h16, h17, h18⟩ := h
    exact ⟨⟨h4, h8, h10.1, h6.1, h6.2.1, h14.1, h14.2.1, h16.1, h16.2, h17, h18.1, h18.2⟩, ⟨h6.2.2, h10.2, h14.2.2⟩⟩)
end Go.Proofs.YthlbcgaegaoanaaGreatDoor.Cr

/- crierlaw12.WindowBounds: the walk and the claim. No condition. -/
import Derived.Test.YtjccmlmkcjmicaaWinSend
import Derived.Test.YtjccmlmkcjmicaaRows
import Derived.WalkKit
import Derived.ProofKit
import Derived.OpenShut
import Derived.Maps.Views
namespace Go.Proofs.Ytjccmlmkcjmicaa.windowBounds
open Go Go.ChangeShapes Go.WideShapes Go.ChangeAt Go.RowKit Go.Maps Go.MapKept Go.ChangeMaps Go.Proofs.YtjccmlmkcjmicaaW.PrintWords Go.Proofs.Ytjccmlmkcjmicaa.Kinds Go.Proofs.Ytjccmlmkcjmicaa.Win
set_option linter.unusedVariables false
set_option linter.unusedSimpArgs false

theorem num_any (n : Int) (w : World) : Calls Try.prog 25 #[.int .i64 n] w fun e w' => e = .returned (.int .i64 n) ∧ w = w' := by
  go_enter Try.func25, Try.ntmps25
  go_wp2
  go_ret
  exact ⟨rfl, rfl⟩

theorem wf_i64 (x : Int) (h : 0 ≤ x ∧ x ≤ 1000000) : (Lit.int .i64 x).wf = true := by simp [Lit.wf, IntKind.min, IntKind.max, IntKind.signed, IntKind.bits]; omega
def setN : Nat → DataW Unit
  | 0 => .map []
  | k + 1 => (setN k).put (.int .i64 ((k : Int) + 1)) (.agg [])
theorem tidy_setN : ∀ k, Tidy (setN k)
  | 0 => ⟨[], rfl, List.Pairwise.nil⟩
  | k + 1 => (tidy_setN k).put (by simp [WideAt.IsKeyLit]) _
theorem has_setN : ∀ (k : Nat) (x : Int), (Lit.int .i64 x).wf = true → k < 100000 → Maps.has (setN k) (.int .i64 x) = decide (1 ≤ x ∧ x ≤ k)
  | 0, x, _, _ => by simp [setN, Maps.has]; omega
  | k + 1, x, hx, hk => by
    have hi := has_setN k x hx (by omega)
    by_cases he : x = (k : Int) + 1
    · subst he
      rw [setN, has_put_same (tidy_setN k).isMap (by simp [WideAt.IsKeyLit])]
      simp; omega
    · rw [setN, has_put_other (by simpa using he), hi]
      congr 1
      apply propext
      omega
theorem size_setN : ∀ k : Nat, k < 100000 → Maps.size (setN k) = k
  | 0, _ => rfl
  | k + 1, hk => by
    rw [setN, size_put (tidy_setN k), size_setN k (by omega), has_setN k _ (wf_i64 _ (by omega)) (by omega)]
    rw [if_neg (by simp; omega)]

def vS (k : Nat) : WS := { newS 1 1 with last := k, D := setN k }
theorem vS_ok (k : Nat) (hk : k ≤ 65535) : WOk (vS k) := by
  have h := newS_ok 1 1
  exact ⟨h.1, h.2, h.3, h.4, by simp [vS], by simp [vS]; omega, by simp [vS, newS], by simp [vS, newS]⟩
theorem vS_num (k : Nat) (hk : k < 65534) : numL (vS k).flights (vS k).D 65535 (vS k).last = (k : Int) + 1 := by
  show numL [] (setN k) (65534 + 1) (k : Int) = _
  rw [numL, show (k : Int) % 65535 + 1 = (k : Int) + 1 by omega, if_pos]
  refine ⟨?_, by show (-1 : Int) < 0; decide⟩
  rw [has_setN k _ (wf_i64 _ (by omega)) (by omega)]
  simp; omega
theorem vS_res (k : Nat) (hk : k < 65534) : resB (vS k) = true ∧ resN (vS k) = (k : Int) + 1 ∧ resS (vS k) = vS (k + 1) := by
  have hb : resB (vS k) = true := by
    show decide ((Maps.size (setN k) : Int) < 65535 - 1) = true
    rw [size_setN k (by omega)]; simp; omega
  refine ⟨hb, ?_, ?_⟩
  · rw [resN, if_pos hb, vS_num k hk]
  · rw [resS, if_pos hb, vS_num k hk]; simp [vS, setN]
theorem vS_full (k : Nat) (hk : k = 65534) : resB (vS k) = false ∧ resN (vS k) = 0 ∧ resS (vS k) = vS k := by
  have hb : resB (vS k) = false := by
    show decide ((Maps.size (setN k) : Int) < 65535 - 1) = false
    rw [size_setN k (by omega)]; exact decide_eq_false (by omega)
  exact ⟨hb, by rw [resN, hb]; rfl, by rw [resS, hb]; rfl⟩
theorem wS_full : resB (newS 65536 1) = false ∧ resN (newS 65536 1) = 0 ∧ resS (newS 65536 1) = newS 65536 1 := by
  have hb : resB (newS 65536 1) = false := rfl
  exact ⟨hb, by rw [resN, hb]; rfl, by rw [resS, hb]; rfl⟩
def qM : Msg := ⟨⟨#[116]⟩, [], 1, false⟩
def qS (k : Nat) : WS := { newS 1 65537 with waits := List.replicate k qM }
theorem qS_ok (k : Nat) (hk : k ≤ 65536) : WOk (qS k) := by
  have h := newS_ok 1 65537
  exact ⟨h.1, h.2, h.3, h.4, by simp [qS, newS], by simp [qS, newS], by simp [qS, newS], by simp [qS]; omega⟩

theorem _root_.Go.Proofs.Ytjccmlmkcjmicaa.Win.WinAt'.lower {w : World} {base base' B : Nat} {ok : Nat → Prop} {s : WS} (h : WinAt' w base ok B s) (hb : base' ≤ base) : WinAt' w base' ok B s := by
  obtain ⟨vf, vw, bm, h⟩ := h
  exact ⟨vf, vw, bm, h.okB, h.okM, Nat.le_trans hb h.baseB, Nat.le_trans hb h.baseM, h.blk, Kd.R_lower h.flights hb, Kd.Q_lower h.waits hb, h.map⟩

set_option maxRecDepth 100000 in
set_option maxHeartbeats 2000000 in
theorem walk (w : World) : Calls Try.prog 10 #[] w fun e w' => e = .returned (.bool true) ∧ Below w.heap.size w w' := by
  have h0 := newS_ok 65536 1
  have h1 := newS_ok 1 65537
  have h2 := newS_ok 1 1
  go_enter Try.func10, Try.ntmps10
  go_wp2_with fail
  refine (new_any 65536 1 w).mono ?_
  rintro e w1 ⟨Bw, rfl, HW1, hb1⟩
  have HW := Aside0.mk HW1
  have HB1 := Aside0.mk hb1
  clear HW1 hb1
  go_wp2_with fail
  refine (new_any 1 65537 w1).mono ?_
  rintro e w2 ⟨Bq, rfl, HQ1, hb1⟩
  have HQ := Aside0.mk HQ1
  have HB2 := Aside0.mk hb1
  clear HQ1 hb1
  go_wp2_with fail
  refine (new_any 1 1 w2).mono ?_
  rintro e w3 ⟨Bv, rfl, HV1, hb1⟩
  have HV := Aside0.mk HV1
  have HB3 := Aside0.mk hb1
  clear HV1 hb1
  go_wp2_with fail
  have HRw := Aside0.mk (reserve_any ((HW.out.below HB2.out).below (HB3.out.mono (Nat.le_refl _))) h0 (by show 0 ≤ 1000000; omega))
  rw [wS_full.1, wS_full.2.1, wS_full.2.2] at HRw
  refine HRw.out.mono ?_
  rintro e w4 ⟨rfl, _, hf⟩
  have s1 := HB1.out.size
  have s2 := HB2.out.size
  have s3 := HB3.out.size
  have HF := Aside0.mk hf
  have HV4 := Aside0.mk ((HV.out.lower (Nat.le_trans s1 s2)).fr hf (fun k h1 h2 => by omega))
  have HQ4 := Aside0.mk (((HQ.out.lower s1).below HB3.out).fr hf (fun k h1 h2 => by omega))
  have HB4 := Aside0.mk (hf.below ((HB1.out.trans (HB2.out.mono s1)).trans (HB3.out.mono (Nat.le_trans s1 s2))) (fun k hk => hk.1) (by omega))
  have s4 := hf.size
  clear hf HRw HW HQ HV HF
  go_wp2_with fail
  have hM0 : (w4.alloc (.cells #[.string ⟨#[116]⟩, .slice none 0 0, .int .i64 1, .bool false] 64)).heap[w4.heap.size]? = some (.cells #[.string ⟨#[116]⟩, .slice none 0 0, .int .i64 1, .bool false] 64 (0, 0)) := alloc_new _ _
  have hb5 : Below w4.heap.size w4 (w4.alloc (.cells #[.string ⟨#[116]⟩, .slice none 0 0, .int .i64 1, .bool false] 64)) := (Below.refl _ _).alloc (Nat.le_refl _) _
  have hN : w4.heap.size + 1 ≤ (w4.alloc (.cells #[.string ⟨#[116]⟩, .slice none 0 0, .int .i64 1, .bool false] 64)).heap.size := by simp
  generalize hM : w4.heap.size = M at *
  generalize w4.alloc (.cells #[.string ⟨#[116]⟩, .slice none 0 0, .int .i64 1, .bool false] 64) = w5 at *
  subst hM
  have HV5 := Aside0.mk (HV4.out.below hb5)
  have HQ5 := Aside0.mk ((HQ4.out.below hb5).mono (ok' := fun k => (w1.heap.size ≤ k ∧ k < w2.heap.size) ∨ w4.heap.size + 1 ≤ k) (fun k hk => .inl hk))
  have HB5 := Aside0.mk (HB4.out.trans (hb5.mono (by omega)))
  have HM := Aside0.mk hM0
  clear HV4 HQ4 HB4 hb5 hM0
  go_loopg [7] 65537 (fun q i wr => ∃ k j : Nat, k + q = 65537 ∧ j = min k 65536 ∧ i = .int .i64 (k : Int) ∧ Aside0 (WinAt' wr w.heap.size (fun k => (w1.heap.size ≤ k ∧ k < w2.heap.size) ∨ w4.heap.size + 1 ≤ k) Bq (qS j)) ∧ Aside0 (WinAt' wr w.heap.size (fun k => w2.heap.size ≤ k ∧ k < w3.heap.size) Bv (vS 0)) ∧ Aside0 (Below w.heap.size w wr) ∧ w4.heap.size + 1 ≤ wr.heap.size ∧ Aside0 (wr.heap[w4.heap.size]? = some (.cells #[.string ⟨#[116]⟩, .slice none 0 0, .int .i64 1, .bool false] 64 (0, 0))))
  case atStart => exact ⟨0, 0, by omega, by omega, rfl, HQ5, HV5, HB5, hN, HM⟩
  case round =>
    clear HV5 HQ5 HB5 HM hN
    obtain ⟨k, j, hk, hj, rfl, HQ, HV, HB, hN, HM⟩ := hrel
    by_cases hlt : k < 65537
    · have hk1 : (k : Int) < 65537 := by omega
      have m0 : wr.cell? ⟨w4.heap.size, 0, none⟩ = some (.string ⟨#[116]⟩) := blk_cell HM.out 0
      have m1 : wr.cell? ⟨w4.heap.size, 1, none⟩ = some (.slice none 0 0) := blk_cell HM.out 1
      have m2 : wr.cell? ⟨w4.heap.size, 2, none⟩ = some (.int .i64 1) := blk_cell HM.out 2
      have m3 : wr.cell? ⟨w4.heap.size, 3, none⟩ = some (.bool false) := blk_cell HM.out 3
      have HK := Aside0.mk hk
      clear hk
      by_cases hl2 : k < 65536
      · have hk2 : (k : Int) < 65536 := by omega
        obtain rfl : j = k := by omega
        have HS := Aside0.mk (send_waits HQ.out (qS_ok j (by omega)) qM none 0 w HB.out HB.out.size (Kd.R_reads' (Kd.R_nil _ 0 wr 0 (fun _ => True))).2.2 (by simp [qM]) rfl (by simp [qS, newS]) (by simp [qS, newS, clampI]; omega))
        have HL := Aside0.mk hl2
        have HJ := Aside0.mk hj
        have HLT := Aside0.mk hlt
        clear hl2 hj hlt
        go_wp2_with fail
        refine HS.out.mono ?_
        rintro e w6 ⟨rfl, hw, hf, hb⟩
        have hsz := hf.size
        have HQ6 := Aside0.mk hw
        have HV6 := Aside0.mk (HV.out.fr hf (fun k h1 h2 => by omega))
        have HB6 := Aside0.mk hb
        have HM6 := Aside0.mk ((hf.block w4.heap.size (by omega) (by omega)).trans HM.out)
        clear hw hf hb HS
        go_wp2_with (go_at_call 25; refine (num_any _ _).mono ?_; rintro e w7 ⟨rfl, rfl⟩)
        go_roundg (65537 - (j + 1))
        case measure => have := HK.out; omega
        case rel =>
          have hk := HK.out
          have hj := HJ.out
          have hl2 := HL.out
          refine ⟨j + 1, j + 1, by omega, by omega, by go_num, ⟨?_⟩, HV6, HB6, by omega, HM6⟩
          have h := HQ6.out.mono (ok' := fun k => (w1.heap.size ≤ k ∧ k < w2.heap.size) ∨ w4.heap.size + 1 ≤ k) (fun k hk => Or.elim hk id (fun h => .inr (by omega)))
          have e : qS (j + 1) = { qS j with waits := (qS j).waits ++ [qM] } := by simp [qS, List.replicate_succ']
          rw [e]
          exact h
      · have hk2 : decide ((k : Int) < 65536) = false := decide_eq_false (by omega)
        have hj2 : 65536 ≤ j ∧ j ≤ 65536 := by omega
        have HS := Aside0.mk (send_lost HQ.out (qS_ok j (by omega)) qM none 0 rfl (by simp [qS, newS]) (by simp [qS, newS, clampI]; omega))
        clear hj2
        have HL := Aside0.mk hl2
        have HJ := Aside0.mk hj
        have HLT := Aside0.mk hlt
        clear hl2 hj hlt
        go_wp2_with fail
        refine HS.out.mono ?_
        rintro e w6 ⟨rfl, hb⟩
        have hsz := hb.size
        have HQ6 := Aside0.mk (HQ.out.below hb)
        have HV6 := Aside0.mk (HV.out.below hb)
        have HB6 := Aside0.mk (HB.out.trans (hb.mono HB.out.size))
        have HM6 := Aside0.mk ((hb.block w4.heap.size (by omega)).trans HM.out)
        clear hb HS
        go_wp2_with (go_at_call 25; refine (num_any _ _).mono ?_; rintro e w7 ⟨rfl, rfl⟩)
        go_roundg (65537 - (k + 1))
        case measure => have := HK.out; omega
        case rel =>
          have hk := HK.out
          have hj := HJ.out
          have hl2 := HL.out
          exact ⟨k + 1, j, by omega, by omega, by go_num, HQ6, HV6, HB6, by omega, HM6⟩
    · have hk1 : decide ((k : Int) < 65537) = false := decide_eq_false (by omega)
      have HJ := Aside0.mk (show 65536 ≤ j ∧ j ≤ 65536 by omega)
      clear hlt hk hj HM
      go_wp2_with fail
      go_loopg [11] 65535 (fun q i wr => ∃ k j' : Nat, k + q = 65535 ∧ j' = min k 65534 ∧ i = .int .i64 (k : Int) ∧ Aside0 (WinAt' wr w.heap.size (fun k => (w1.heap.size ≤ k ∧ k < w2.heap.size) ∨ w4.heap.size + 1 ≤ k) Bq (qS j)) ∧ Aside0 (WinAt' wr w.heap.size (fun k => w2.heap.size ≤ k ∧ k < w3.heap.size) Bv (vS j')) ∧ Aside0 (Below w.heap.size w wr) ∧ w4.heap.size + 1 ≤ wr.heap.size)
      case atStart => exact ⟨0, 0, by omega, by omega, rfl, HQ, HV, HB, hN⟩
      case round =>
        clear HQ HV HB hN hk1
        obtain ⟨l, j', hk, hj', rfl, HQ, HV, HB, hN⟩ := hrel
        by_cases hlt : l < 65535
        · have hk1 : (l : Int) < 65535 := by omega
          have HK := Aside0.mk hk
          have HR := Aside0.mk (reserve_any HV.out (vS_ok j' (by omega)) (by show Maps.size (setN j') ≤ _; rw [size_setN j' (by omega)]; omega))
          by_cases hl2 : l < 65534
          · obtain rfl : j' = l := by omega
            have hk2 : (j' : Int) < 65534 := by omega
            rw [(vS_res j' hl2).1, (vS_res j' hl2).2.1, (vS_res j' hl2).2.2] at HR
            have HL := Aside0.mk hl2
            clear hk hj' hlt hl2
            go_wp2_with fail
            refine HR.out.mono ?_
            rintro e w6 ⟨rfl, hw, hf⟩
            have hsz := hf.size
            have HV6 := Aside0.mk hw
            have HQ6 := Aside0.mk (HQ.out.fr hf (fun k h1 h2 => by omega))
            have HB6 := Aside0.mk (hf.below HB.out (fun k hk => by omega) HB.out.size)
            clear hw hf HR
            go_wp2_with fail
            go_roundg (65535 - (j' + 1))
            case measure => have := HK.out; omega
            case rel =>
              have hk := HK.out
              have hl2 := HL.out
              exact ⟨j' + 1, j' + 1, by omega, by omega, by go_num, HQ6, HV6, HB6, by omega⟩
          · have hk2 : decide ((l : Int) < 65534) = false := decide_eq_false (by omega)
            have hj2 : j' = 65534 := by omega
            rw [(vS_full j' hj2).1, (vS_full j' hj2).2.1, (vS_full j' hj2).2.2] at HR
            have HL := Aside0.mk hl2
            have HJ2 := Aside0.mk hj'
            clear hk hj' hlt hl2 hj2
            go_wp2_with fail
            refine HR.out.mono ?_
            rintro e w6 ⟨rfl, hw, hf⟩
            have hsz := hf.size
            have HV6 := Aside0.mk hw
            have HQ6 := Aside0.mk (HQ.out.fr hf (fun k h1 h2 => by omega))
            have HB6 := Aside0.mk (hf.below HB.out (fun k hk => by omega) HB.out.size)
            clear hw hf HR
            go_wp2_with fail
            go_roundg (65535 - (l + 1))
            case measure => have := HK.out; omega
            case rel =>
              have hk := HK.out
              have hl2 := HL.out
              have hj2 := HJ2.out
              exact ⟨l + 1, j', by omega, by omega, by go_num, HQ6, HV6, HB6, by omega⟩
        · have hk1 : decide ((l : Int) < 65535) = false := decide_eq_false (by omega)
          clear hlt hk hj'
          go_wp2_with fail
          refine (waiting_any HQ.out).mono ?_
          rintro e w6 ⟨rfl, rfl⟩
          have hj3 : (((qS j).waits.length : Int) == 65536) = true := by have := HJ.out; simp [qS]; omega
          generalize ((qS j).waits.length : Int) = wl at *
          go_wp2_with fail
          refine (flying_any HQ.out).mono ?_
          rintro e w6 ⟨rfl, rfl⟩
          rw [show (((qS j).flights.length : Nat) : Int) = 0 from rfl]
          go_wp2_with fail
          go_ret
          exact ⟨rfl, HB.out⟩

theorem own : ownKnob Try.prog.godebug = none := by kernel_rfl

set_option maxRecDepth 100000 in
theorem lifted (os : Os) (started : os.Started) (H : Type) (enc : TypeId × Value → H) :
    ReturnsInHanded {} Try.checked os 10 .any (Rows.windowBoundsSpec.pre6 enc Try.prog Try.f10 Rows.windowBoundsRow.domain false) (Rows.windowBoundsSpec.post enc Try.prog Try.f10 false true false false) := by
  refine returnsInHanded_of_change (C := Try.checked) own started (by kernel_rfl) Try.func10
    (ChangeSpec.witness6 (enc := enc) (C := Try.checked) false ⟨#[], #[], []⟩ 8 (by kernel_rfl) (by kernel_rfl) (by kernel_rfl) (by kernel_rfl)) ?_
  intro W base args ds gs before hval0 hW hcnd _
  have hW' := hW
  obtain ⟨p, q, hA0, hV, rfl, hfz, hnd⟩ := hW
  have hA : DataW.TrodAll enc Try.prog W 0 (fun _ => true) true Try.f10.params.toList args.toList ds p := hA0
  rw [Try.params10] at hA
  obtain ⟨h1, rfl, rfl⟩ := trodAll_none hA
  obtain rfl : args = #[] := by cases args; simp_all
  obtain ⟨rfl, rfl⟩ := trodVars_none hV
  clear hA0 hval0
  refine (walk W).mono fun e W' ⟨he, bel⟩ => ?_
  subst he
  exact ⟨_, rfl, _, _, _, [], _, [], hW', trodAll_mk1 (shut_bool Try.underlying4 _), trodAll_mk0, rfl, bel.frame _, fun h => by cases h⟩

theorem over : Rows.windowBoundsRow.holds Try.pinned (OpenSpec.ofChange Rows.windowBoundsSpec) :=
  OpenClaim.holds_of_wide 10 Try.f10 rfl rfl rfl rfl rfl rfl rfl ⟨rfl, rfl, rfl, rfl, rfl⟩ rfl rfl rfl rfl rfl (by kernel_rfl) Try.func10 (by kernel_rfl)
    (of_decide_eq_true (by kernel_rfl)) (by unfold Func.isWrapper; first | (rw [if_pos (by decide +kernel)]; kernel_rfl) | (rw [if_neg (by decide +kernel)]; exact ⟨rfl, rfl⟩))
    (fun os started H enc _ => lifted os started H enc)

theorem proved : Rows.WindowBoundsSaid := over
#print axioms proved
end Go.Proofs.Ytjccmlmkcjmicaa.windowBounds

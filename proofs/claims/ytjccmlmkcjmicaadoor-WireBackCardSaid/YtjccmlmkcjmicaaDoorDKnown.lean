/- crierlaw1.known: the chapter's examples hold. No statement of the program. -/
import Derived.Test.YtjccmlmkcjmicaaDoorRdrText
import Derived.Test.YtjccmlmkcjmicaaDoorPuts
import Derived.Test.YtjccmlmkcjmicaaDoorErrAs
import Derived.Test.YtjccmlmkcjmicaaDoorErrIs
namespace Go.Proofs.YtjccmlmkcjmicaaDoor.Known
open Go Go.RowKit Go.Proofs.YtjccmlmkcjmicaaDoorW.PrintWords Go.Proofs.YtjccmlmkcjmicaaDoorW.PrintLast Go.Proofs.YtjccmlmkcjmicaaDoorW.PrintMore Go.Proofs.YtjccmlmkcjmicaaDoor.Utf Go.Proofs.YtjccmlmkcjmicaaDoor.Chk Go.Proofs.YtjccmlmkcjmicaaDoor.Rdr Go.Proofs.YtjccmlmkcjmicaaDoor.Errs Go.Proofs.YtjccmlmkcjmicaaDoor.PWireBack
set_option linter.unusedVariables false
set_option linter.unusedSimpArgs false

/-- what a heap must hold: the handle of the type 'error' -/
def EtAt (w : World) : Prop := w.cell? ⟨0, 0, none⟩ = some (.iface 79 (.agg #[.pointer (some ⟨1, 39, none⟩)]))
theorem EtAt.pos {w : World} (h : EtAt w) : 0 < w.heap.size := by
  rcases Nat.eq_zero_or_pos w.heap.size with h0 | h1
  · simp [EtAt, World.cell?, h0] at h
  · exact h1
theorem EtAt.below {w w1 : World} {b : Nat} (h : EtAt w) (hb : Below b w w1) (h0 : 0 < b) : EtAt w1 := (hb.cell h0).trans h

theorem as_hit2 (e : Addr) (P : Nat) (old : Value) (w : World) (hg : EtAt w) (hP : w.heap[P]? = some (.cells #[old] 48 (0, 0))) :
    Calls Tryd.prog 27 #[.iface 48 (.pointer (some e)), .iface 50 (.pointer (some ⟨P, 0, none⟩))] w fun ev w' => ev = .returned (.bool true) ∧ w'.heap[P]? = some (.cells #[.pointer (some e)] 48 (0, 0)) ∧ (∀ b, b ≤ P → b ≤ w.heap.size → Below b w w') ∧ (∀ k, k < w.heap.size → k ≠ P → w'.heap[k]? = w.heap[k]?) := by
  have hlt : P < w.heap.size := blk_lt hP
  refine (as_hit e ⟨P, 0, none⟩ old w hg (blk_cell hP 0) (blk_frozen hP 0)).mono ?_
  rintro ev w' ⟨rfl, rfl⟩
  have hb : ∀ b, b ≤ P → b ≤ w.heap.size → ∀ (o1 o2 o3 o4 : Obj) (u : Value), Below b w (((((w.alloc o1).alloc o2).alloc o3).alloc o4).setCell ⟨P, 0, none⟩ u) := fun b h1 h2 o1 o2 o3 o4 u =>
    ((((((Below.refl b w).alloc h2 o1).alloc (by simp; omega) o2).alloc (by simp; omega) o3).alloc (by simp; omega) o4).setCell h1 u)
  have hk : ∀ k, k < w.heap.size → ∀ (o1 o2 o3 o4 : Obj), ((((w.alloc o1).alloc o2).alloc o3).alloc o4).heap[k]? = w.heap[k]? := fun k h o1 o2 o3 o4 => by
    rw [Below.heap_alloc _ _ _ (by simp; omega), Below.heap_alloc _ _ _ (by simp; omega), Below.heap_alloc _ _ _ (by simp; omega), Below.heap_alloc _ _ _ h]
  refine ⟨rfl, ?_, fun b h1 h2 => hb b h1 h2 _ _ _ _ _, fun k h1 h2 => ?_⟩
  · exact blk_set ((hk P hlt _ _ _ _).trans hP) 0 _
  · rw [Below.heap_setCell _ _ _ _ h2]; exact hk k h1 _ _ _ _
theorem j01 : joinG [0, 1] = 1 := by kernel_rfl
theorem s97 : strOfNums [97] = ⟨#[97]⟩ := by kernel_rfl
theorem c97 : (chk (strOfNums [97])).2 = 0 := by kernel_rfl
theorem cbad : chk ⟨#[97, 192, 128]⟩ = (1, 13) := by kernel_rfl
theorem ce9 : (chk ⟨#[195, 169]⟩).2 = 0 := by kernel_rfl
theorem len128 : wire_Length.f 6 [128, 0] = some (0, 2, 0) := by kernel_rfl
theorem put128 : ([128, 1] : List Int) = [] ++ encL 5 (lenCl 128) := by kernel_rfl
theorem put300 : ([5] : List Int) ++ [300 / 256 % 256, 300 % 256] = [5, 1, 44] := by kernel_rfl
theorem pute9 : ([] : List Int) ++ [((⟨#[195, 169]⟩ : ByteArray).size : Int) / 256 % 256, ((⟨#[195, 169]⟩ : ByteArray).size : Int) % 256] ++ bytesOf ⟨#[195, 169]⟩ = [0, 2, 195, 169] := by kernel_rfl
theorem same1 : crierlaw1_same.f [0, 2, 195, 169] [0, 2, 195, 169] = some true := by kernel_rfl
theorem same2 : crierlaw1_same.f [5, 1, 44] [5, 1, 44] = some true := by kernel_rfl
theorem same3 : crierlaw1_same.f [128, 1] [128, 1] = some true := by kernel_rfl

theorem RdAt.lower {w : World} {base base' B : Nat} {l : List Int} {a : Int} {ev : Value} (h : RdAt w base B l a ev) (hb : base' ≤ base) : RdAt w base' B l a ev := by
  obtain ⟨v, h1, h2, h3⟩ := h
  exact ⟨v, h1, Kd.R_lower h2 hb, Nat.le_trans hb h3⟩
theorem FltAt.below {w w1 : World} {F : Nat} {p c : Int} (h : FltAt w F p c) (hb : Below w.heap.size w w1) : FltAt w1 F p c := (hb.block F (blk_lt h)).trans h

theorem num_id (n : Int) (w : World) : Calls Tryd.prog 8 #[.int .i64 n] w fun e w' => e = .returned (.int .i64 n) ∧ w' = w := by
  go_enter Tryd.func8, Tryd.ntmps8
  go_wp2
  go_ret
  exact ⟨rfl, rfl⟩
theorem Drawn0.below {b : Nat} {w W W1 : World} (h : Drawn0 W W1) (hb : Below b w W) : Below b w W1 := by
  obtain ⟨m, rfl⟩ := h
  exact pw_below_drewN hb m

set_option maxRecDepth 100000 in
set_option maxHeartbeats 4000000 in
theorem known_true (w : World) (hg : EtAt w) : Calls Tryd.prog 6 #[] w fun e w' => e = .returned (.bool true) ∧ Below w.heap.size w w' := by
  have HG := Aside0.mk hg
  have h0 := hg.pos
  clear hg
  have HL1 := Aside0.mk (C_lit w [0, 1, 97, 7] (by decide))
  have hneq : ∀ w : World, (binOp .neq 39 .nilIface .nilIface).run Tryd.prog w = .ok (.bool false) w := fun _ => by kernel_rfl
  go_enter Tryd.func6, Tryd.ntmps6
  go_wp2_with (first
    | (go_at_call 12; refine (read_any [0, 1, 97, 7] _ _ _ HL1.out (by decide)).mono ?_; rintro e w2 ⟨B, rfl, hR, hB⟩; have HR := Aside0.mk (RdAt.lower hR (Nat.le_trans (Nat.le_succ _) (Nat.le_of_eq (by simp) : w.heap.size + 1 ≤ _))); have HB := Aside0.mk ((((Below.refl w.heap.size w).alloc (Nat.le_refl _) _).trans (hB.mono (by simp))) : Below w.heap.size w w2); clear hR hB)
    | (go_at_call 25; refine (text_ok HR.out (by decide) (by decide) [0, 1] [97] rfl 1 j01 (by decide) (by decide) rfl c97).mono ?_; rintro e w3 ⟨rfl, hR, hB⟩; rw [s97]; have HR3 := Aside0.mk (show RdAt w3 w.heap.size B [0, 1, 97, 7] 3 (.pointer none) from hR); have HB3 := Aside0.mk (HB.out.trans hB); clear hR hB HR HB)
    | (go_at_call 17; refine (at_any HR3.out).mono ?_; rintro e w4 ⟨rfl, rfl⟩)
    | (go_at_call 20; refine (err_nil HR3.out).mono ?_; rintro e w4 ⟨rfl, rfl⟩)
    | (go_at_call 26; refine (end_left HR3.out (by decide)).mono ?_; rintro e w5 ⟨rfl, F, hR, hF, hB⟩; have HR4 := Aside0.mk hR; have HF := Aside0.mk hF; have HB5 := Aside0.mk (HB3.out.trans hB); have HN := Aside0.mk ((Below.refl w5.heap.size w5).alloc (Nat.le_refl _) (.cells #[.pointer none] 48)); have HG5 := Aside0.mk (HG.out.below HB5.out h0); clear hR hF hB HR3 HB3 HG HL1)
    | (go_at_call 20; refine (err_some (HR4.out.below HN.out) (FltAt.below HF.out HN.out)).mono ?_; rintro e w7 ⟨G, rfl, hG, hGe, hB⟩; have hP7 := (hB.block w5.heap.size (by simp)).trans (heap_alloc_new w5 _); have HFG := Aside0.mk hG; have HGE := Aside0.mk (show w5.heap.size < G by simp at hGe; omega); have HP7 := Aside0.mk hP7; have HN7 := Aside0.mk (HN.out.trans (hB.mono HN.out.size)); clear hP7 hG hGe hB HN)
    | (go_at_call 27; refine (as_hit2 _ w5.heap.size _ _ (HG5.out.below HN7.out (by have := HB5.out.size; omega)) HP7.out).mono ?_; rintro e w8 ⟨rfl, hP8, hB8, hK8⟩; have cP := blk_cell hP8 0; have hG8 : FltAt w8 G 3 15 := (hK8 G (blk_lt HFG.out) (by have := HGE.out; omega)).trans HFG.out; have cG := blk_cell hG8 0; have HN8 := Aside0.mk (HN7.out.trans (hB8 _ (Nat.le_refl _) HN7.out.size)); clear hP8 hB8 hK8 hG8 HFG HGE HP7 HN7)
    | (go_at_call 20; refine (err_some (HR4.out.below HN8.out) (FltAt.below HF.out HN8.out)).mono ?_; rintro e w9 ⟨G2, rfl, hG, hGe, hB⟩; have HIS := Aside0.mk (blk_cell hG 1); have HN9 := Aside0.mk (HN8.out.trans (hB.mono HN8.out.size)); clear hG hGe hB HN8)
    | (go_at_call 28; refine (is_rest G2 _ HIS.out).mono ?_; rintro e w10 ⟨rfl, rfl⟩)
    | (go_at_call 29; refine (byte_err (HR4.out.below HN9.out)).mono ?_; rintro e w10 ⟨rfl, rfl⟩)
    | (go_at_call 17; refine (at_any (HR4.out.below HN9.out)).mono ?_; rintro e w10 ⟨rfl, rfl⟩)
    | (go_at_call 7; refine (check_any _ _).mono ?_; rintro e w11 ⟨rfl, hB⟩; rw [cbad]; have HB11 := Aside0.mk ((HB5.out.trans (HN9.out.mono HB5.out.size)).trans (hB.mono (Nat.le_trans HB5.out.size HN9.out.size))); have HL2 := Aside0.mk (C_lit w11 [128, 0] (by decide)); clear hB HN9 HR4 HF HB5 HG5)
    | (go_at_call 9; refine (wire_Length.calls 6 _ 2 [128, 0] 0 2 0 _ HL2.out (by decide) len128).mono ?_; rintro e w12 ⟨rfl, hD⟩; have HB12 := Aside0.mk (Drawn0.below hD (HB11.out.alloc HB11.out.size _)); clear hD HL2 HB11)
    | (go_at_call 21; refine (putText_ok [] ⟨#[195, 169]⟩ none 0 _ (Kd.C_nil _ _) (by decide) ce9 (by decide)).mono ?_; rintro e w13 ⟨v1, rfl, hR, hB⟩; rw [pute9] at hR; obtain ⟨A1, c1, rfl, hc1, hC1⟩ := Kd.R_reads hR; have HC1 := Aside0.mk hC1; have HL3 := Aside0.mk (C_lit w13 [0, 2, 195, 169] (by decide)); have HB13 := Aside0.mk (HB12.out.trans (hB.mono HB12.out.size)); clear hR hC1 hB HB12)
    | (go_at_call 8; refine (num_id _ _).mono ?_; rintro e w14 ⟨rfl, rfl⟩)
    | (go_at_call 23; refine (crierlaw1_same.calls _ _ [0, 2, 195, 169] _ _ [0, 2, 195, 169] true _ (Kd.C_alloc HC1.out _) hc1 HL3.out (Nat.le_refl _) same1).mono ?_; rintro e w14 ⟨rfl, hD⟩; have HB14 := Aside0.mk (Drawn0.below hD (HB13.out.alloc HB13.out.size _)); have HL4 := Aside0.mk (C_lit w14 [5] (by decide)); clear hD HC1 HL3 HB13)
    | (go_at_call 13; refine (putNumber_any [5] 300 _ _ _ HL4.out (by decide)).mono ?_; rintro e w15 ⟨v2, rfl, hR, hB⟩; rw [put300] at hR; obtain ⟨A2, c2, rfl, hc2, hC2⟩ := Kd.R_reads hR; have HC2 := Aside0.mk hC2; have HL5 := Aside0.mk (C_lit w15 [5, 1, 44] (by decide)); have HB15 := Aside0.mk ((HB14.out.alloc HB14.out.size _).trans (hB.mono (HB14.out.alloc HB14.out.size _).size)); clear hR hC2 hB HB14 HL4)
    | (go_at_call 23; refine (crierlaw1_same.calls _ _ [5, 1, 44] _ _ [5, 1, 44] true _ (Kd.C_alloc HC2.out _) hc2 HL5.out (Nat.le_refl _) same2).mono ?_; rintro e w16 ⟨rfl, hD⟩; have HB16 := Aside0.mk (Drawn0.below hD (HB15.out.alloc HB15.out.size _)); clear hD HC2 HL5 HB15)
    | (go_at_call 11; refine (putLength_any [] 128 none 0 _ (Kd.C_nil _ _) (by decide) [128, 1] put128).mono ?_; rintro e w17 ⟨v3, rfl, hR, hB⟩; obtain ⟨A3, c3, rfl, hc3, hC3⟩ := Kd.R_reads hR; have HC3 := Aside0.mk hC3; have HL6 := Aside0.mk (C_lit w17 [128, 1] (by decide)); have HB17 := Aside0.mk (HB16.out.trans (hB.mono HB16.out.size)); clear hR hC3 hB HB16)
    | (go_at_call 23; refine (crierlaw1_same.calls _ _ [128, 1] _ _ [128, 1] true _ (Kd.C_alloc HC3.out _) hc3 HL6.out (Nat.le_refl _) same3).mono ?_; rintro e w18 ⟨rfl, hD⟩; have HB18 := Aside0.mk (Drawn0.below hD (HB17.out.alloc HB17.out.size _)); clear hD HC3 HL6 HB17))
  go_ret
  exact ⟨rfl, HB18.out⟩
end Go.Proofs.YtjccmlmkcjmicaaDoor.Known

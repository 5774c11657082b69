/- crierlaw1.WireTexts walked, way by way (printed by wip/gen_texts.py): true; memory that was there stays. No statement of the program. -/
import Derived.Test.YtjccmlmkcjmicaaDoorDKnown
import Derived.Test.YtjccmlmkcjmicaaDoorDTextLaw
namespace Go.Proofs.YtjccmlmkcjmicaaDoor.Texts
open Go Go.RowKit Go.Proofs.YtjccmlmkcjmicaaDoorW.PrintWords Go.Proofs.YtjccmlmkcjmicaaDoorW.PrintLast Go.Proofs.YtjccmlmkcjmicaaDoorW.PrintMore Go.Proofs.YtjccmlmkcjmicaaDoor.Utf Go.Proofs.YtjccmlmkcjmicaaDoor.Chk Go.Proofs.YtjccmlmkcjmicaaDoor.Rdr Go.Proofs.YtjccmlmkcjmicaaDoor.Known Go.Proofs.YtjccmlmkcjmicaaDoor.TextLaw
set_option linter.unusedVariables false
set_option linter.unusedSimpArgs false
attribute [local go_sem] max2_int min2_int max_two min_two

set_option maxRecDepth 100000 in
set_option maxHeartbeats 2000000 in
theorem big_a (w : World) (hg : EtAt w) (a b more : ByteArray) (cut : Int) (h : (a.size : Int) > 30000) :
    Calls Tryd.prog 3 #[.string a, .string b, .string more, .int .i64 cut] w fun e w' => e = .returned (.bool true) ∧ Below w.heap.size w w' := by
  have b0 : decide ((a.size : Int) > 30000) = true := decide_eq_true h
  have HN := Aside0.mk (Below.refl w.heap.size w)
  go_enter Tryd.func3, Tryd.ntmps3
  go_wp2_with (first
    | (go_at_call 6; refine (known_true _ hg).mono ?_; rintro e w1 ⟨rfl, hB⟩; have HN1 := Aside0.mk hB; clear hB HN; have HN := HN1; clear HN1)
    | (go_at_call 8; refine (num_id _ _).mono ?_; rintro e w1 ⟨rfl, rfl⟩))
  go_ret
  exact ⟨rfl, HN.out⟩

set_option maxRecDepth 100000 in
set_option maxHeartbeats 2000000 in
theorem big_b (w : World) (hg : EtAt w) (a b more : ByteArray) (cut : Int) (h0 : ¬ (a.size : Int) > 30000) (h : (b.size : Int) > 30000) :
    Calls Tryd.prog 3 #[.string a, .string b, .string more, .int .i64 cut] w fun e w' => e = .returned (.bool true) ∧ Below w.heap.size w w' := by
  have b0 : decide ((a.size : Int) > 30000) = false := decide_eq_false h0
  have b1 : decide ((b.size : Int) > 30000) = true := decide_eq_true h
  have HN := Aside0.mk (Below.refl w.heap.size w)
  go_enter Tryd.func3, Tryd.ntmps3
  go_wp2_with (first
    | (go_at_call 6; refine (known_true _ hg).mono ?_; rintro e w1 ⟨rfl, hB⟩; have HN1 := Aside0.mk hB; clear hB HN; have HN := HN1; clear HN1)
    | (go_at_call 8; refine (num_id _ _).mono ?_; rintro e w1 ⟨rfl, rfl⟩))
  go_ret
  exact ⟨rfl, HN.out⟩

set_option maxRecDepth 100000 in
set_option maxHeartbeats 2000000 in
theorem big_more (w : World) (hg : EtAt w) (a b more : ByteArray) (cut : Int) (h0 : ¬ (a.size : Int) > 30000) (h1 : ¬ (b.size : Int) > 30000) (h : (more.size : Int) > 5000) :
    Calls Tryd.prog 3 #[.string a, .string b, .string more, .int .i64 cut] w fun e w' => e = .returned (.bool true) ∧ Below w.heap.size w w' := by
  have b0 : decide ((a.size : Int) > 30000) = false := decide_eq_false h0
  have b1 : decide ((b.size : Int) > 30000) = false := decide_eq_false h1
  have b2 : decide ((more.size : Int) > 5000) = true := decide_eq_true h
  have HN := Aside0.mk (Below.refl w.heap.size w)
  go_enter Tryd.func3, Tryd.ntmps3
  go_wp2_with (first
    | (go_at_call 6; refine (known_true _ hg).mono ?_; rintro e w1 ⟨rfl, hB⟩; have HN1 := Aside0.mk hB; clear hB HN; have HN := HN1; clear HN1)
    | (go_at_call 8; refine (num_id _ _).mono ?_; rintro e w1 ⟨rfl, rfl⟩))
  go_ret
  exact ⟨rfl, HN.out⟩

set_option maxRecDepth 100000 in
set_option maxHeartbeats 2000000 in
theorem ok_neg (w : World) (hg : EtAt w) (a b more : ByteArray) (cut : Int) (h0 : ¬ (a.size : Int) > 30000) (h1 : ¬ (b.size : Int) > 30000) (h2 : ¬ (more.size : Int) > 5000) (ha : chk a = (0, 0)) (hb : chk b = (0, 0)) (hab : chk (a ++ b) = (0, 0)) (hc : cut < 0) :
    Calls Tryd.prog 3 #[.string a, .string b, .string more, .int .i64 cut] w fun e w' => e = .returned (.bool true) ∧ Below w.heap.size w w' := by
  have b0 : decide ((a.size : Int) > 30000) = false := decide_eq_false h0
  have b1 : decide ((b.size : Int) > 30000) = false := decide_eq_false h1
  have b2 : decide ((more.size : Int) > 5000) = false := decide_eq_false h2
  have b3 : decide (cut ≥ 0) = false := decide_eq_false (by omega)
  have HQ0 := Aside0.mk (ha)
  have HQ1 := Aside0.mk (hb)
  have HQ2 := Aside0.mk (hab)
  have HN := Aside0.mk (Below.refl w.heap.size w)
  go_enter Tryd.func3, Tryd.ntmps3
  go_wp2_with (first
    | (go_at_call 6; refine (known_true _ hg).mono ?_; rintro e w1 ⟨rfl, hB⟩; have HN1 := Aside0.mk hB; clear hB HN; have HN := HN1; clear HN1)
    | (go_at_call 8; refine (num_id _ _).mono ?_; rintro e w1 ⟨rfl, rfl⟩)
    | (go_at_call 7; refine (check_any _ _).mono ?_; rintro e w1 ⟨rfl, hB⟩; (first | rw [HQ0.out] | rw [HQ1.out] | rw [HQ2.out] | skip); have HN1 := Aside0.mk (HN.out.trans (hB.mono HN.out.size)); clear hB HN; have HN := HN1; clear HN1))
  go_ret
  exact ⟨rfl, HN.out⟩

set_option maxRecDepth 100000 in
set_option maxHeartbeats 2000000 in
theorem ok_far (w : World) (hg : EtAt w) (a b more : ByteArray) (cut : Int) (h0 : ¬ (a.size : Int) > 30000) (h1 : ¬ (b.size : Int) > 30000) (h2 : ¬ (more.size : Int) > 5000) (ha : chk a = (0, 0)) (hb : chk b = (0, 0)) (hab : chk (a ++ b) = (0, 0)) (hc : 0 ≤ cut) (hc2 : (a.size : Int) ≤ cut) :
    Calls Tryd.prog 3 #[.string a, .string b, .string more, .int .i64 cut] w fun e w' => e = .returned (.bool true) ∧ Below w.heap.size w w' := by
  have b0 : decide ((a.size : Int) > 30000) = false := decide_eq_false h0
  have b1 : decide ((b.size : Int) > 30000) = false := decide_eq_false h1
  have b2 : decide ((more.size : Int) > 5000) = false := decide_eq_false h2
  have b3 : decide (cut ≥ 0) = true := decide_eq_true (by omega)
  have b4 : decide (cut < (a.size : Int)) = false := decide_eq_false (by omega)
  have HQ0 := Aside0.mk (ha)
  have HQ1 := Aside0.mk (hb)
  have HQ2 := Aside0.mk (hab)
  have HN := Aside0.mk (Below.refl w.heap.size w)
  go_enter Tryd.func3, Tryd.ntmps3
  go_wp2_with (first
    | (go_at_call 6; refine (known_true _ hg).mono ?_; rintro e w1 ⟨rfl, hB⟩; have HN1 := Aside0.mk hB; clear hB HN; have HN := HN1; clear HN1)
    | (go_at_call 8; refine (num_id _ _).mono ?_; rintro e w1 ⟨rfl, rfl⟩)
    | (go_at_call 7; refine (check_any _ _).mono ?_; rintro e w1 ⟨rfl, hB⟩; (first | rw [HQ0.out] | rw [HQ1.out] | rw [HQ2.out] | skip); have HN1 := Aside0.mk (HN.out.trans (hB.mono HN.out.size)); clear hB HN; have HN := HN1; clear HN1))
  go_ret
  exact ⟨rfl, HN.out⟩

set_option maxRecDepth 100000 in
set_option maxHeartbeats 2000000 in
theorem ok_low (w : World) (hg : EtAt w) (a b more : ByteArray) (cut : Int) (h0 : ¬ (a.size : Int) > 30000) (h1 : ¬ (b.size : Int) > 30000) (h2 : ¬ (more.size : Int) > 5000) (ha : chk a = (0, 0)) (hb : chk b = (0, 0)) (hab : chk (a ++ b) = (0, 0)) (hc : 0 ≤ cut) (hc2 : cut < (a.size : Int)) (hl : cut.toNat < a.size) (hx : chk (a.extract 0 cut.toNat) = (0, 0)) (hy : chk (a.extract cut.toNat a.size) = (0, 0)) (hv : ((a[cut.toNat]'hl).toNat : Int) < 128) :
    Calls Tryd.prog 3 #[.string a, .string b, .string more, .int .i64 cut] w fun e w' => e = .returned (.bool true) ∧ Below w.heap.size w w' := by
  have b0 : decide ((a.size : Int) > 30000) = false := decide_eq_false h0
  have b1 : decide ((b.size : Int) > 30000) = false := decide_eq_false h1
  have b2 : decide ((more.size : Int) > 5000) = false := decide_eq_false h2
  have b3 : decide (cut ≥ 0) = true := decide_eq_true (by omega)
  have b4 : decide (cut < (a.size : Int)) = true := decide_eq_true (by omega)
  have HQ0 := Aside0.mk (ha)
  have HQ1 := Aside0.mk (hb)
  have HQ2 := Aside0.mk (hab)
  have HQ3 := Aside0.mk (hx)
  have HQ4 := Aside0.mk (hy)
  have HN := Aside0.mk (Below.refl w.heap.size w)
  go_enter Tryd.func3, Tryd.ntmps3
  go_wp2_with (first
    | (go_at_call 6; refine (known_true _ hg).mono ?_; rintro e w1 ⟨rfl, hB⟩; have HN1 := Aside0.mk hB; clear hB HN; have HN := HN1; clear HN1)
    | (go_at_call 8; refine (num_id _ _).mono ?_; rintro e w1 ⟨rfl, rfl⟩)
    | (go_at_call 7; refine (check_any _ _).mono ?_; rintro e w1 ⟨rfl, hB⟩; (first | rw [HQ0.out] | rw [HQ1.out] | rw [HQ2.out] | rw [HQ3.out] | rw [HQ4.out] | skip); have HN1 := Aside0.mk (HN.out.trans (hB.mono HN.out.size)); clear hB HN; have HN := HN1; clear HN1))
  go_ret
  exact ⟨rfl, HN.out⟩

set_option maxRecDepth 100000 in
set_option maxHeartbeats 2000000 in
theorem ok_high (w : World) (hg : EtAt w) (a b more : ByteArray) (cut : Int) (h0 : ¬ (a.size : Int) > 30000) (h1 : ¬ (b.size : Int) > 30000) (h2 : ¬ (more.size : Int) > 5000) (ha : chk a = (0, 0)) (hb : chk b = (0, 0)) (hab : chk (a ++ b) = (0, 0)) (hc : 0 ≤ cut) (hc2 : cut < (a.size : Int)) (hl : cut.toNat < a.size) (hx : chk (a.extract 0 cut.toNat) = (0, 0)) (hy : chk (a.extract cut.toNat a.size) = (0, 0)) (hv : ¬ ((a[cut.toNat]'hl).toNat : Int) < 128) (hv2 : 192 ≤ ((a[cut.toNat]'hl).toNat : Int)) :
    Calls Tryd.prog 3 #[.string a, .string b, .string more, .int .i64 cut] w fun e w' => e = .returned (.bool true) ∧ Below w.heap.size w w' := by
  have b0 : decide ((a.size : Int) > 30000) = false := decide_eq_false h0
  have b1 : decide ((b.size : Int) > 30000) = false := decide_eq_false h1
  have b2 : decide ((more.size : Int) > 5000) = false := decide_eq_false h2
  have b3 : decide (cut ≥ 0) = true := decide_eq_true (by omega)
  have b4 : decide (cut < (a.size : Int)) = true := decide_eq_true (by omega)
  have HQ0 := Aside0.mk (ha)
  have HQ1 := Aside0.mk (hb)
  have HQ2 := Aside0.mk (hab)
  have HQ3 := Aside0.mk (hx)
  have HQ4 := Aside0.mk (hy)
  have HN := Aside0.mk (Below.refl w.heap.size w)
  go_enter Tryd.func3, Tryd.ntmps3
  go_wp2_with (first
    | (go_at_call 6; refine (known_true _ hg).mono ?_; rintro e w1 ⟨rfl, hB⟩; have HN1 := Aside0.mk hB; clear hB HN; have HN := HN1; clear HN1)
    | (go_at_call 8; refine (num_id _ _).mono ?_; rintro e w1 ⟨rfl, rfl⟩)
    | (go_at_call 7; refine (check_any _ _).mono ?_; rintro e w1 ⟨rfl, hB⟩; (first | rw [HQ0.out] | rw [HQ1.out] | rw [HQ2.out] | rw [HQ3.out] | rw [HQ4.out] | skip); have HN1 := Aside0.mk (HN.out.trans (hB.mono HN.out.size)); clear hB HN; have HN := HN1; clear HN1))
  go_ret
  exact ⟨rfl, HN.out⟩

set_option maxRecDepth 100000 in
set_option maxHeartbeats 2000000 in
theorem ok_mid (w : World) (hg : EtAt w) (a b more : ByteArray) (cut : Int) (h0 : ¬ (a.size : Int) > 30000) (h1 : ¬ (b.size : Int) > 30000) (h2 : ¬ (more.size : Int) > 5000) (ha : chk a = (0, 0)) (hb : chk b = (0, 0)) (hab : chk (a ++ b) = (0, 0)) (hc : 0 ≤ cut) (hc2 : cut < (a.size : Int)) (hl : cut.toNat < a.size) (hv : ¬ ((a[cut.toNat]'hl).toNat : Int) < 128) (hv2 : ¬ 192 ≤ ((a[cut.toNat]'hl).toNat : Int)) :
    Calls Tryd.prog 3 #[.string a, .string b, .string more, .int .i64 cut] w fun e w' => e = .returned (.bool true) ∧ Below w.heap.size w w' := by
  have b0 : decide ((a.size : Int) > 30000) = false := decide_eq_false h0
  have b1 : decide ((b.size : Int) > 30000) = false := decide_eq_false h1
  have b2 : decide ((more.size : Int) > 5000) = false := decide_eq_false h2
  have b3 : decide (cut ≥ 0) = true := decide_eq_true (by omega)
  have b4 : decide (cut < (a.size : Int)) = true := decide_eq_true (by omega)
  have HQ0 := Aside0.mk (ha)
  have HQ1 := Aside0.mk (hb)
  have HQ2 := Aside0.mk (hab)
  have HN := Aside0.mk (Below.refl w.heap.size w)
  go_enter Tryd.func3, Tryd.ntmps3
  go_wp2_with (first
    | (go_at_call 6; refine (known_true _ hg).mono ?_; rintro e w1 ⟨rfl, hB⟩; have HN1 := Aside0.mk hB; clear hB HN; have HN := HN1; clear HN1)
    | (go_at_call 8; refine (num_id _ _).mono ?_; rintro e w1 ⟨rfl, rfl⟩)
    | (go_at_call 7; refine (check_any _ _).mono ?_; rintro e w1 ⟨rfl, hB⟩; (first | rw [HQ0.out] | rw [HQ1.out] | rw [HQ2.out] | skip); have HN1 := Aside0.mk (HN.out.trans (hB.mono HN.out.size)); clear hB HN; have HN := HN1; clear HN1))
  go_ret
  exact ⟨rfl, HN.out⟩

set_option maxRecDepth 100000 in
set_option maxHeartbeats 2000000 in
theorem bad_ok (w : World) (hg : EtAt w) (a b more : ByteArray) (cut : Int) (h0 : ¬ (a.size : Int) > 30000) (h1 : ¬ (b.size : Int) > 30000) (h2 : ¬ (more.size : Int) > 5000) (pa ea : Int) (ha : chk a = (pa, ea)) (hea : (ea == 0) = false) (hab : chk (a ++ b) = (0, 0)) :
    Calls Tryd.prog 3 #[.string a, .string b, .string more, .int .i64 cut] w fun e w' => e = .returned (.bool true) ∧ Below w.heap.size w w' := by
  have b0 : decide ((a.size : Int) > 30000) = false := decide_eq_false h0
  have b1 : decide ((b.size : Int) > 30000) = false := decide_eq_false h1
  have b2 : decide ((more.size : Int) > 5000) = false := decide_eq_false h2
  have HQ0 := Aside0.mk (ha)
  have HQ1 := Aside0.mk (hab)
  have HN := Aside0.mk (Below.refl w.heap.size w)
  go_enter Tryd.func3, Tryd.ntmps3
  go_wp2_with (first
    | (go_at_call 6; refine (known_true _ hg).mono ?_; rintro e w1 ⟨rfl, hB⟩; have HN1 := Aside0.mk hB; clear hB HN; have HN := HN1; clear HN1)
    | (go_at_call 8; refine (num_id _ _).mono ?_; rintro e w1 ⟨rfl, rfl⟩)
    | (go_at_call 7; refine (check_any _ _).mono ?_; rintro e w1 ⟨rfl, hB⟩; (first | rw [HQ0.out] | rw [HQ1.out] | skip); have HN1 := Aside0.mk (HN.out.trans (hB.mono HN.out.size)); clear hB HN; have HN := HN1; clear HN1))
  go_ret
  exact ⟨rfl, HN.out⟩

end Go.Proofs.YtjccmlmkcjmicaaDoor.Texts

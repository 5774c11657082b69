/- WireChecks holds: for every string the program and the document answer alike, and the string reads as it did. No condition. -/
import Derived.Test.YtjccmlmkcjmicaaRows
import Derived.Test.YtjccmlmkcjmicaaCheck
import Derived.Test.YtjccmlmkcjmicaaRefCheck
import Derived.ProofKit
import Derived.OpenShut
import Derived.ShutString
import Derived.ChangeOld
namespace Go.Proofs.Ytjccmlmkcjmicaa.wireChecks
open Go.ChangeShapes Go.WideShapes Go.ChangeAt Go.RowKit Go.Proofs.Ytjccmlmkcjmicaa.Utf Go.Proofs.Ytjccmlmkcjmicaa.Chk Go.Proofs.Ytjccmlmkcjmicaa.PWireChecks Go.Proofs.YtjccmlmkcjmicaaW.PrintWords
open Go.ChangeMaps (open_string shut_string)
set_option linter.unusedVariables false

theorem own : ownKnob Try.prog.godebug = none := by kernel_rfl
theorem laidOut : laidOutB Try.prog = true := by kernel_rfl

set_option maxRecDepth 100000 in
theorem walk (s : ByteArray) (w : World) :
    Calls Try.prog 9 #[.string s] w fun e w' => e = .returned (.bool true) ∧ Below w.heap.size w w' := by
  obtain ⟨k, hk⟩ := RefChk.ref_check s
  obtain ⟨r1, r2, hr⟩ : ∃ r1 r2, chk s = (r1, r2) := ⟨_, _, rfl⟩
  have hw := check_any s w
  rw [hr] at hk hw
  clear hr
  have eq1 : ((r1 : Int) == r1) = true := by simp
  have eq2 : ((r2 : Int) == r2) = true := by simp
  by_cases hl : 140000 < s.size
  · go_enter Try.func9, Try.ntmps9
    go_wp2
    go_ret
    exact ⟨rfl, Below.refl _ _⟩
  · have HK := Lib.hid hk
    have HW := Lib.hid hw
    clear hk hw
    go_enter Try.func9, Try.ntmps9
    go_wp2_with fail
    refine (HW.out).mono ?_
    rintro e w1 ⟨rfl, hb1⟩
    go_wp2_with fail
    refine (crierref1_Check.calls k s r1 r2 _ HK.out).mono ?_
    rintro e w2 ⟨rfl, hb2⟩
    have hb3 : Below w.heap.size w w2 := hb1.trans (hb2.below.mono hb1.size)
    have HB := Lib.hid hb3
    clear hb1 hb2 hb3
    go_wp2_with fail
    refine (crierlaw1_num.calls r2 r2 _ rfl).mono ?_
    rintro e w3 ⟨rfl, hb4⟩
    have hb5 := HB.out.trans (hb4.below.mono HB.out.size)
    have HB2 := Lib.hid hb5
    clear hb4 hb5
    go_wp2
    go_ret
    exact ⟨rfl, HB2.out⟩

set_option maxRecDepth 100000 in
theorem lifted (os : Os) (started : os.Started) (H : Type) (enc : TypeId × Value → H) :
    ReturnsInHanded {} Try.checked os 9 .any (Rows.wireChecksSpec.pre6 enc Try.prog Try.f9 Rows.wireChecksRow.domain false) (Rows.wireChecksSpec.post enc Try.prog Try.f9 false true false false) := by
  refine returnsInHanded_of_change (C := Try.checked) own started (by kernel_rfl) Try.func9
    (ChangeSpec.witness6 (enc := enc) (C := Try.checked) false ⟨#[], #[.string ⟨#[]⟩], []⟩ 8 (by kernel_rfl) (by kernel_rfl) (by kernel_rfl) (by kernel_rfl)) ?_
  intro W base args ds gs before hval0 hW hcnd _
  have hval : ∀ (j : Nat) t v, Try.f9.params[j]? = some t → args[j]? = some v → Value.okWide Try.prog W .any base t v := hval0
  have hW' := hW
  obtain ⟨p, q, hA0, hV, rfl, hfz, hnd⟩ := hW
  have hA : DataW.TrodAll enc Try.prog W 0 (fun _ => true) true Try.f9.params.toList args.toList ds p := hA0
  rw [Try.params9] at hA hval
  obtain ⟨v0, vs0, d0, ds0, p0, q0, hargs, rfl, rfl, h0, r0⟩ := trodAll_cons hA
  obtain ⟨rfl, rfl, rfl⟩ := trodAll_nil r0
  obtain rfl : args = #[v0] := by cases args; simp_all
  obtain ⟨rfl, rfl⟩ := trodVars_none hV
  obtain ⟨s, rfl, rfl, rfl, ws⟩ := open_string Try.underlying9 (hval 0 9 v0 rfl rfl) h0
  clear hA0 hval0
  refine (walk s W).mono fun e W' ⟨he, bel⟩ => ?_
  subst he
  exact ⟨_, rfl, _, _, _, [], _, [], hW', trodAll_mk1 (shut_bool Try.underlying4 _), (trodAll_cons_mk (shut_string Try.underlying9 ws) trodAll_mk0), rfl, bel.frame _, fun h => by cases h⟩

theorem over : Rows.wireChecksRow.holds Try.pinned (OpenSpec.ofChange Rows.wireChecksSpec) :=
  OpenClaim.holds_of_wide 9 Try.f9 rfl rfl rfl rfl rfl rfl rfl ⟨rfl, rfl, rfl, rfl, rfl⟩ rfl rfl rfl rfl rfl (by kernel_rfl) Try.func9 (by kernel_rfl)
    (of_decide_eq_true (by kernel_rfl)) (by unfold Func.isWrapper; first | (rw [if_pos (by decide +kernel)]; kernel_rfl) | (rw [if_neg (by decide +kernel)]; exact ⟨rfl, rfl⟩))
    (fun os started H enc _ => lifted os started H enc)

theorem proved : Rows.WireChecksSaid := over
#print axioms proved
end Go.Proofs.Ytjccmlmkcjmicaa.wireChecks

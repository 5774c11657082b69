/- crierlaw1.WireBack walked. No statement of the program. UNDER WAY. -/
import Derived.Test.YtjccmlmkcjmicaaDoorDKnown
import Derived.Test.YtjccmlmkcjmicaaDoorDBackLaw
import Derived.Test.YtjccmlmkcjmicaaDoorPuts2
import Derived.Test.YtjccmlmkcjmicaaDoorRdrLen
namespace Go.Proofs.YtjccmlmkcjmicaaDoor.Back
open Go Go.RowKit Go.Proofs.YtjccmlmkcjmicaaDoorW.PrintWords Go.Proofs.YtjccmlmkcjmicaaDoorW.PrintLast Go.Proofs.YtjccmlmkcjmicaaDoorW.PrintMore Go.Proofs.YtjccmlmkcjmicaaDoor.Utf Go.Proofs.YtjccmlmkcjmicaaDoor.Chk Go.Proofs.YtjccmlmkcjmicaaDoor.Rdr Go.Proofs.YtjccmlmkcjmicaaDoor.Known Go.Proofs.YtjccmlmkcjmicaaDoor.Len Go.Proofs.YtjccmlmkcjmicaaDoor.BackLaw Go.Proofs.YtjccmlmkcjmicaaDoor.PWireBack
set_option linter.unusedVariables false
set_option linter.unusedSimpArgs false
attribute [local go_sem] max2_int min2_int max_two min_two

theorem behind_eval (l0 l1 : List Int) (h : l0.length + l1.length < 140737488355328) : crierlaw1_behind.f l0 l1 = some (l0 ++ l1) := by
  unfold crierlaw1_behind.f
  rw [if_pos (by simp; omega)]
  simp only [Option.bind_some, List.nil_append]
  rw [if_pos h]
theorem strOfNums_bytesOf (t : ByteArray) : strOfNums (bytesOf t) = t := by
  unfold strOfNums bytesOf
  apply ByteArray.ext
  simp [Function.comp_def]
theorem chk_size (t : ByteArray) (h : (chk t).2 = 0) : t.size ≤ 65535 := by
  unfold chk at h
  by_cases h1 : 65535 < t.size
  · rw [if_pos h1] at h; exact absurd h (by decide)
  · omega
theorem same_self (d : List Int) : crierlaw1_same.f d d = some true := by simp [crierlaw1_same.f]

set_option maxRecDepth 100000 in
theorem putText_bad (v : Value) (t : ByteArray) (w : World) (ht : ((chk t).2 != 0) = true) :
    Calls Tryd.prog 21 #[v, .string t] w fun e w' => e = .returned (.tuple #[.slice none 0 0, .int .i64 (chk t).2]) ∧ Below w.heap.size w w' := by
  go_enter Tryd.func21, Tryd.ntmps21
  go_wp2_with (first
    | (go_at_call 7; refine (check_any t _).mono ?_; rintro e w1 ⟨rfl, hB1⟩; have HB1 := Aside0.mk hB1; clear hB1))
  go_ret2
  exact ⟨rfl, HB1.out⟩

set_option maxRecDepth 100000 in
set_option maxHeartbeats 8000000 in
theorem back_true (w : World) (hg : EtAt w) (n : Int) (t : ByteArray) (d more : List Int) (D M : Option Addr) (cd cm : Nat) (hd : (Kd.int .u8).C w D d.length d) (hcd : d.length ≤ cd) (hm : (Kd.int .u8).C w M more.length more) (hcm : more.length ≤ cm) (hmb : ∀ x ∈ more, 0 ≤ x ∧ x ≤ 255)
    (h0 : ¬ (t.size : Int) > 140000) (h1 : ¬ (d.length : Int) > 140000) (h2 : ¬ (more.length : Int) > 140000) :
    Calls Tryd.prog 5 #[.int .i64 n, .string t, .slice D d.length cd, .slice M more.length cm] w fun e w' => e = .returned (.bool true) ∧ Below w.heap.size w w' := by
  have b0 : decide ((t.size : Int) > 140000) = false := decide_eq_false h0
  have b1 : decide ((d.length : Int) > 140000) = false := decide_eq_false h1
  have b2 : decide ((more.length : Int) > 140000) = false := decide_eq_false h2
  have hneq : ∀ w : World, (binOp .neq 39 .nilIface .nilIface).run Tryd.prog w = .ok (.bool false) w := fun _ => by kernel_rfl
  have heql : ∀ w : World, (binOp .eql 39 .nilIface .nilIface).run Tryd.prog w = .ok (.bool true) w := fun _ => by kernel_rfl
  obtain ⟨px, hpx⟩ : ∃ px : List Int, px = [] ++ [n / 256 % 256, n % 256] := ⟨_, rfl⟩
  obtain ⟨py, hpy⟩ : ∃ py : List Int, py = [] ++ [n / 16777216 % 256, n / 65536 % 256, n / 256 % 256, n % 256] := ⟨_, rfl⟩
  obtain ⟨xs, hxs⟩ : ∃ xs : List Int, xs = px ++ more := ⟨_, rfl⟩
  obtain ⟨ys, hys⟩ : ∃ ys : List Int, ys = py ++ more := ⟨_, rfl⟩
  have HPX := Aside0.mk hpx
  have HPY := Aside0.mk hpy
  obtain ⟨m, hm0⟩ : ∃ m : Int, lenCl n = m := ⟨_, rfl⟩
  have hcr := lenCl_range n
  rw [hm0] at hcr
  obtain ⟨en, hen⟩ : ∃ en : List Int, en = [] ++ encL 5 (lenCl n) := ⟨_, rfl⟩
  have hen' : en = encL 5 m := by rw [hen, hm0]; rfl
  obtain ⟨zs, hzs⟩ : ∃ zs : List Int, zs = en ++ more := ⟨_, rfl⟩
  have hel : en.length ≤ 4 := by rw [hen']; exact encL_len 5 4 m hcr.1 (by have := hcr.2; omega) (by decide)
  have hel1 : 1 ≤ en.length := by
    rcases en with _ | ⟨x, r⟩
    · simp only [encL] at hen'; split at hen' <;> simp at hen'
    · simp
  obtain ⟨k, hk⟩ : ∃ k : Int, k = (en.length : Int) := ⟨_, rfl⟩
  have hE : wire_Length.f 6 zs = some (m, k, 0) := by
    rw [length_eval zs (by
      rw [hzs, hen']
      intro x hx
      rcases List.mem_append.1 hx with hx | hx
      · exact encL_range 5 m hcr.1 x hx
      · exact hmb x hx), hzs, hen', lenS_enc m hcr.1 hcr.2 more, hk, hen']
  have HE := Aside0.mk hE
  have HM0 := Aside0.mk hm0
  have hk1 : 1 ≤ k := by omega
  have hk4 : k ≤ 4 := by omega
  have t0 : (k != (en.length : Int)) = false := by rw [hk]; simp
  have t1 : decide (k < 1) = false := decide_eq_false (by omega)
  have t2 : decide (k > 4) = false := decide_eq_false (by omega)
  have HXS := Aside0.mk hxs
  have HYS := Aside0.mk hys
  have HEN := Aside0.mk hen
  have HZS := Aside0.mk hzs
  have HX2 := Aside0.mk (show xs.length = more.length + 2 by rw [hxs, hpx]; simp)
  have HY2 := Aside0.mk (show ys.length = more.length + 4 by rw [hys, hpy]; simp)
  have HEL := Aside0.mk hel
  have HZ2 := Aside0.mk (show zs.length = en.length + more.length by rw [hzs]; simp)
  have HBZ := Aside0.mk (show crierlaw1_behind.f en more = some zs by rw [hzs]; exact behind_eval _ _ (by omega))
  have HBX := Aside0.mk (show crierlaw1_behind.f px more = some xs by rw [hxs]; exact behind_eval _ _ (by rw [hpx]; simp; omega))
  have HBY := Aside0.mk (show crierlaw1_behind.f py more = some ys by rw [hys]; exact behind_eval _ _ (by rw [hpy]; simp; omega))
  have HMD := Aside0.mk hm
  have HDD := Aside0.mk hd
  have HN := Aside0.mk (Below.refl w.heap.size w)
  -- the data
  obtain ⟨pd, hpd⟩ : ∃ pd : List Int, pd = [] ++ [(d.length : Int) / 256 % 256, (d.length : Int) % 256] ++ d := ⟨_, rfl⟩
  have hpdl : pd.length = d.length + 2 := by rw [hpd]; simp
  obtain ⟨us, hus⟩ : ∃ us : List Int, us = pd ++ more := ⟨_, rfl⟩
  have HPD := Aside0.mk hpd
  have HUS := Aside0.mk hus
  have HU2 := Aside0.mk (show us.length = d.length + 2 + more.length by rw [hus]; simp [hpdl])
  have HBU := Aside0.mk (show crierlaw1_behind.f pd more = some us by rw [hus]; exact behind_eval _ _ (by omega))
  have HU3 := Aside0.mk (show [(d.length : Int) / 256 % 256, (d.length : Int) % 256] = (us.drop (0 : Int).toNat).take 2 by rw [hus, hpd]; rfl)
  have HU4 := Aside0.mk (show d = (us.drop ((0 : Int) + 2).toNat).take ((d.length : Int)).toNat by rw [hus, hpd]; simp)
  obtain ⟨qd, hqd⟩ : ∃ q : Int, 0 + 2 + (d.length : Int) = q := ⟨_, rfl⟩
  have t3 : (qd != (pd.length : Int)) = false := by rw [← hqd, hpdl]; simp; omega
  have HQD := Aside0.mk hqd
  have HSD := Aside0.mk (same_self d)
  -- the text
  obtain ⟨tb, htb⟩ : ∃ tb : List Int, tb = bytesOf t := ⟨_, rfl⟩
  have htbl : tb.length = t.size := by rw [htb, bytesOf_length]
  obtain ⟨pt, hpt⟩ : ∃ pt : List Int, pt = [] ++ [(t.size : Int) / 256 % 256, (t.size : Int) % 256] ++ tb := ⟨_, rfl⟩
  have hptl : pt.length = t.size + 2 := by rw [hpt]; simp [htbl]
  obtain ⟨vs, hvs⟩ : ∃ vs : List Int, vs = pt ++ more := ⟨_, rfl⟩
  have HTB := Aside0.mk htb
  have HST := Aside0.mk (show strOfNums tb = t by rw [htb]; exact strOfNums_bytesOf t)
  have HPT := Aside0.mk (show pt = [] ++ [(t.size : Int) / 256 % 256, (t.size : Int) % 256] ++ bytesOf t by rw [hpt, htb])
  have HVS := Aside0.mk hvs
  have HV2 := Aside0.mk (show vs.length = t.size + 2 + more.length by rw [hvs]; simp [hptl])
  have HBV := Aside0.mk (show crierlaw1_behind.f pt more = some vs by rw [hvs]; exact behind_eval _ _ (by omega))
  have HV3 := Aside0.mk (show [(t.size : Int) / 256 % 256, (t.size : Int) % 256] = (vs.drop (0 : Int).toNat).take 2 by rw [hvs, hpt]; rfl)
  have HV4 := Aside0.mk (show tb = (vs.drop ((0 : Int) + 2).toNat).take ((t.size : Int)).toNat by rw [hvs, hpt]; simp [← htbl])
  obtain ⟨qt, hqt⟩ : ∃ q : Int, 0 + 2 + (t.size : Int) = q := ⟨_, rfl⟩
  have t4 : (qt == (pt.length : Int)) = true := by rw [← hqt, hptl]; simp; omega
  have t5 : ((pt.length : Int) == 2 + (t.size : Int)) = true := by rw [hptl]; simp; omega
  have HQT := Aside0.mk hqt
  clear hd hm hxs hys hzs hen hpx hpy hel hel1 hcr hmb hen' hE hm0 hk hpd hpdl hus hqd htb htbl hpt hptl hvs hqt
  go_enter Tryd.func5, Tryd.ntmps5
  go_upto_region 8 with (first
    | (go_at_call 6; refine (known_true _ hg).mono ?_; rintro e w1 ⟨rfl, hB⟩; have HN1 := Aside0.mk hB; clear hB HN; have HN := HN1; clear HN1)
    | (go_at_call 13; refine (putNumber_any [] n none 0 _ (Kd.C_nil _ _) (by decide)).mono ?_; rintro e w2 ⟨v1, rfl, hR, hB⟩; rw [← HPX.out] at hR; obtain ⟨A1, c1, rfl, hc1, hC1⟩ := Kd.R_reads hR; have HC1 := Aside0.mk hC1; have HN1 := Aside0.mk (HN.out.trans (hB.mono HN.out.size)); clear hR hC1 hB HN; have HN := HN1; clear HN1)
    | (go_at_call 10; (with_reducible refine (crierlaw1_behind.calls A1 c1 _ M cm more xs _ HC1.out hc1 (Kd.C_below HMD.out HN.out) hcm HBX.out).mono ?_); rintro e w3 ⟨v2, rfl, hR, hB⟩; obtain ⟨A2, c2, rfl, hc2, hC2⟩ := Kd.R_reads hR; have HC2 := Aside0.mk hC2; have HN1 := Aside0.mk (HN.out.trans (hB.mono HN.out.size)); clear hR hC2 hB HN; have HN := HN1; clear HN1)
    | (go_at_call 12; (with_reducible refine (read_any xs A2 c2 _ HC2.out (by have := HX2.out; omega)).mono ?_); rintro e w4 ⟨X, rfl, hR, hB⟩; have hbX := HN.out.size; have HX := Aside0.mk hR; have HN1 := Aside0.mk (HN.out.trans (hB.mono HN.out.size)); clear HN; have HN := HN1; clear HN1; clear hR hB HC2)
    | (go_at_call 14; refine (putLong_any [] n none 0 _ (Kd.C_nil _ _) (by decide)).mono ?_; rintro e w5 ⟨v3, rfl, hR, hB⟩; rw [← HPY.out] at hR; obtain ⟨A3, c3, rfl, hc3, hC3⟩ := Kd.R_reads hR; have HC3 := Aside0.mk hC3; have HN1 := Aside0.mk (HN.out.trans (hB.mono HN.out.size)); clear HN; have HN := HN1; clear HN1; have HX1 := Aside0.mk (HX.out.below hB); clear HX; have HX := HX1; clear HX1; clear hR hC3 hB)
    | (go_at_call 10; (with_reducible refine (crierlaw1_behind.calls A3 c3 _ M cm more ys _ HC3.out hc3 (Kd.C_below HMD.out HN.out) hcm HBY.out).mono ?_); rintro e w6 ⟨v4, rfl, hR, hB⟩; obtain ⟨A4, c4, rfl, hc4, hC4⟩ := Kd.R_reads hR; have HC4 := Aside0.mk hC4; have HN1 := Aside0.mk (HN.out.trans (hB.mono HN.out.size)); clear HN; have HN := HN1; clear HN1; have HX1 := Aside0.mk (HX.out.below hB); clear HX; have HX := HX1; clear HX1; clear hR hC4 hB HC3)
    | (go_at_call 12; (with_reducible refine (read_any ys A4 c4 _ HC4.out (by have := HY2.out; omega)).mono ?_); rintro e w7 ⟨Y, rfl, hR, hB⟩; have hbY := HN.out.size; have hXY : X < Y := Nat.lt_of_lt_of_le HX.out.lt hR.ge; have HY := Aside0.mk hR; have HN1 := Aside0.mk (HN.out.trans (hB.mono HN.out.size)); clear HN; have HN := HN1; clear HN1; have HX1 := Aside0.mk (HX.out.below hB); clear HX; have HX := HX1; clear HX1; clear hR hB HC4)
    | (go_at_call 11; refine (putLength_any [] n none 0 _ (Kd.C_nil _ _) (by decide) en HEN.out).mono ?_; rintro e w8 ⟨v5, rfl, hR, hB⟩; obtain ⟨A5, c5, rfl, hc5, hC5⟩ := Kd.R_reads hR; have HC5 := Aside0.mk hC5; have HN1 := Aside0.mk (HN.out.trans (hB.mono HN.out.size)); clear HN; have HN := HN1; clear HN1; have HX1 := Aside0.mk (HX.out.below hB); clear HX; have HX := HX1; clear HX1; have HY1 := Aside0.mk (HY.out.below hB); clear HY; have HY := HY1; clear HY1; clear hR hC5 hB)
    | (go_at_call 10; (with_reducible refine (crierlaw1_behind.calls A5 c5 en M cm more zs _ HC5.out hc5 (Kd.C_below HMD.out HN.out) hcm HBZ.out).mono ?_); rintro e w9 ⟨v6, rfl, hR, hB⟩; obtain ⟨A6, c6, rfl, hc6, hC6⟩ := Kd.R_reads hR; have HC6 := Aside0.mk hC6; have HN1 := Aside0.mk (HN.out.trans (hB.mono HN.out.size)); clear HN; have HN := HN1; clear HN1; have HX1 := Aside0.mk (HX.out.below hB); clear HX; have HX := HX1; clear HX1; have HY1 := Aside0.mk (HY.out.below hB); clear HY; have HY := HY1; clear HY1; clear hR hC6 hB HC5)
    | (go_at_call 12; (with_reducible refine (read_any zs A6 c6 _ HC6.out (by have := HZ2.out; have := HEL.out; omega)).mono ?_); rintro e w10 ⟨Z, rfl, hR, hB⟩; have hbZ := HN.out.size; have hYZ : Y < Z := Nat.lt_of_lt_of_le HY.out.lt hR.ge; have HZ := Aside0.mk hR; have HN1 := Aside0.mk (HN.out.trans (hB.mono HN.out.size)); clear HN; have HN := HN1; clear HN1; have HX1 := Aside0.mk (HX.out.below hB); clear HX; have HX := HX1; clear HX1; have HY1 := Aside0.mk (HY.out.below hB); clear HY; have HY := HY1; clear HY1; clear hR hB HC6)
    | (go_at_call 15; refine (rnumber_ok HX.out (by decide) (by have := HX2.out; omega) [n / 256 % 256, n % 256] (by rw [HXS.out, HPX.out]; rfl)).mono ?_; rintro e w11 ⟨rfl, hR, hB, hK⟩; rw [num2]; obtain ⟨r1, hr1⟩ : ∃ r, n % 65536 = r := ⟨_, rfl⟩; rw [hr1]; have HR1 := Aside0.mk hr1; clear hr1; have HY1 := Aside0.mk (HY.out.keep HX.out hK (by omega)); clear HY; have HY := HY1; clear HY1; have HZ1 := Aside0.mk (HZ.out.keep HX.out hK (by omega)); clear HZ; have HZ := HZ1; clear HZ1; clear HX; have HX := Aside0.mk hR; have HN1 := Aside0.mk (HN.out.trans (hB.mono hbX)); clear HN; have HN := HN1; clear HN1; clear hR hB hK)
    | (go_at_call 16; (with_reducible refine (crierlaw1_mod.calls n 65536 r1 _ ((mod_eval n 65536 (by decide) (by decide)).trans (congrArg some HR1.out))).mono ?_); rintro e w12 ⟨rfl, hD⟩; have hB := Drawn0.below hD (Below.refl w11.heap.size w11); have HN1 := Aside0.mk (HN.out.trans (hB.mono HN.out.size)); clear HN; have HN := HN1; clear HN1; have HX1 := Aside0.mk (HX.out.below hB); clear HX; have HX := HX1; clear HX1; have HY1 := Aside0.mk (HY.out.below hB); clear HY; have HY := HY1; clear HY1; have HZ1 := Aside0.mk (HZ.out.below hB); clear HZ; have HZ := HZ1; clear HZ1; clear hD hB)
    | (go_at_call 16; (with_reducible refine (crierlaw1_mod.calls n 4294967296 r2 _ ((mod_eval n 4294967296 (by decide) (by decide)).trans (congrArg some HR2.out))).mono ?_); rintro e w14 ⟨rfl, hD⟩; have hB := Drawn0.below hD (Below.refl w15.heap.size w15); have HN1 := Aside0.mk (HN.out.trans (hB.mono HN.out.size)); clear HN; have HN := HN1; clear HN1; have HX1 := Aside0.mk (HX.out.below hB); clear HX; have HX := HX1; clear HX1; have HY1 := Aside0.mk (HY.out.below hB); clear HY; have HY := HY1; clear HY1; have HZ1 := Aside0.mk (HZ.out.below hB); clear HZ; have HZ := HZ1; clear HZ1; clear hD hB)
    | (go_at_call 17; (with_reducible refine (at_any HX.out).mono ?_); rintro e w13 ⟨rfl, rfl⟩)
    | (go_at_call 18; refine (rlong_ok HY.out (by decide) (by have := HY2.out; omega) [n / 16777216 % 256, n / 65536 % 256, n / 256 % 256, n % 256] (by rw [HYS.out, HPY.out]; rfl)).mono ?_; rintro e w15 ⟨rfl, hR, hB, hK⟩; rw [num4]; obtain ⟨r2, hr2⟩ : ∃ r, n % 4294967296 = r := ⟨_, rfl⟩; rw [hr2]; have HR2 := Aside0.mk hr2; clear hr2; have HX1 := Aside0.mk (HX.out.keep HY.out hK (by omega)); clear HX; have HX := HX1; clear HX1; have HZ1 := Aside0.mk (HZ.out.keep HY.out hK (by omega)); clear HZ; have HZ := HZ1; clear HZ1; clear HY; have HY := Aside0.mk hR; have HN1 := Aside0.mk (HN.out.trans (hB.mono hbY)); clear HN; have HN := HN1; clear HN1; clear hR hB hK)
    | (go_at_call 17; (with_reducible refine (at_any HY.out).mono ?_); rintro e w16 ⟨rfl, rfl⟩))
  go_cut [12] (fun s1 wx => s1 = .int .i64 m ∧ wx = w16)
  case first =>
    go_wp2_with fail
    all_goals
      go_meet
      case rel => exact ⟨by rw [← HM0.out]; congr 1; unfold lenCl; split <;> (try split) <;> omega, rfl⟩
  case rest =>
    obtain ⟨rfl, rfl⟩ := hcut
    clear HX HY HPX HPY HXS HYS HX2 HY2 HBX HBY HZS HEL HZ2 HBZ HM0 HR1 HR2
    go_upto_region 11 with (first
      | (go_at_call 19; (with_reducible refine (rlength_ok HZ.out m k HE.out (by omega) hk4).mono ?_); rintro e w17 ⟨rfl, hR, hB, hK⟩; clear HZ; have HZ := Aside0.mk hR; have HN1 := Aside0.mk (HN.out.trans (hB.mono hbZ)); clear HN; have HN := HN1; clear HN1; clear hR hB hK)
      | (go_at_call 20; (with_reducible refine (err_nil HZ.out).mono ?_); rintro e w18 ⟨rfl, rfl⟩)
      | (go_at_call 17; (with_reducible refine (at_any HZ.out).mono ?_); rintro e w19 ⟨rfl, rfl⟩)
      | (go_at_call 11; refine (putLength_any [] n none 0 _ (Kd.C_nil _ _) (by decide) en HEN.out).mono ?_; rintro e w20 ⟨v7, rfl, hR, hB⟩; obtain ⟨A7, c7, rfl, hc7, hC7⟩ := Kd.R_reads hR; have HN1 := Aside0.mk (HN.out.trans (hB.mono HN.out.size)); clear HN; have HN := HN1; clear HN1; have HZ1 := Aside0.mk (HZ.out.below hB); clear HZ; have HZ := HZ1; clear HZ1; clear hR hC7 hB))
    clear HZ HE HEN hbX hbY hbZ hXY hYZ
    by_cases hdl : d.length ≤ 65535
    · have td : decide ((d.length : Int) ≤ 65535) = true := decide_eq_true (by omega)
      have HDN := Aside0.mk (show joinG [(d.length : Int) / 256 % 256, (d.length : Int) % 256] = (d.length : Int) by rw [num2]; omega)
      by_cases ht : (chk t).2 = 0
      · as_aux_lemma =>
        have hts : t.size ≤ 65535 := chk_size t ht
        have HTN := Aside0.mk (show joinG [(t.size : Int) / 256 % 256, (t.size : Int) % 256] = (t.size : Int) by rw [num2]; omega)
        have HTC := Aside0.mk (show (chk (strOfNums tb)).2 = 0 by rw [HST.out]; exact ht)
        have HT0 := Aside0.mk ht
        clear ht
        go_upto_region 17 with (first
          | (go_at_call 21; refine (putText_ok [] t none 0 _ (Kd.C_nil _ _) (by decide) HT0.out hts).mono ?_; rintro e w21 ⟨v8, rfl, hR, hB⟩; rw [← HPT.out] at hR; obtain ⟨AT, cT, rfl, hcT, hCT⟩ := Kd.R_reads hR; have HCT := Aside0.mk hCT; have HNT := Aside0.mk (Below.refl w21.heap.size w21); have HN1 := Aside0.mk (HN.out.trans (hB.mono HN.out.size)); clear HN; have HN := HN1; clear HN1; clear hR hCT hB)
          | (go_at_call 22; refine (putData_ok [] d none D 0 cd _ (Kd.C_nil _ _) (by decide) (Kd.C_below HDD.out HN.out) hdl).mono ?_; rintro e w22 ⟨v9, rfl, hR, hB⟩; rw [← HPD.out] at hR; obtain ⟨AD, cD, rfl, hcD, hCD⟩ := Kd.R_reads hR; have HCD := Aside0.mk hCD; have HN1 := Aside0.mk (HN.out.trans (hB.mono HN.out.size)); clear HN; have HN := HN1; clear HN1; have HNT1 := Aside0.mk (HNT.out.trans (hB.mono HNT.out.size)); clear HNT; have HNT := HNT1; clear HNT1; clear hR hCD hB)
          | (go_at_call 8; (with_reducible refine (num_id _ _).mono ?_); rintro e w23 ⟨rfl, rfl⟩)
          | (go_at_call 10; (with_reducible refine (crierlaw1_behind.calls AD cD _ M cm more us _ HCD.out hcD (Kd.C_below HMD.out HN.out) hcm HBU.out).mono ?_); rintro e w24 ⟨v10, rfl, hR, hB⟩; obtain ⟨AU, cU, rfl, hcU, hCU⟩ := Kd.R_reads hR; have HCU := Aside0.mk hCU; have HN1 := Aside0.mk (HN.out.trans (hB.mono HN.out.size)); clear HN; have HN := HN1; clear HN1; have HNT1 := Aside0.mk (HNT.out.trans (hB.mono HNT.out.size)); clear HNT; have HNT := HNT1; clear HNT1; clear hR hCU hB HCD)
          | (go_at_call 12; (with_reducible refine (read_any us AU cU _ HCU.out (by have := HU2.out; omega)).mono ?_); rintro e w25 ⟨R, rfl, hR, hB⟩; have hbR := HN.out.size; have hbT := HNT.out.size; have HR := Aside0.mk hR; have HN1 := Aside0.mk (HN.out.trans (hB.mono HN.out.size)); clear HN; have HN := HN1; clear HN1; have HNT1 := Aside0.mk (HNT.out.trans (hB.mono HNT.out.size)); clear HNT; have HNT := HNT1; clear HNT1; clear hR hB HCU)
          | (go_at_call 24; refine (rdata_ok HR.out (by decide) (by have := HU2.out; omega) _ d HU3.out (d.length : Int) HDN.out (by omega) (by have := HU2.out; omega) HU4.out (by omega)).mono ?_; rintro e w26 ⟨v11, rfl, hV, hR, hB⟩; rw [HQD.out] at hR; obtain ⟨AV, cV, rfl, hcV, hCV⟩ := Kd.R_reads hV; have HCV := Aside0.mk hCV; clear HR; have HR := Aside0.mk hR; have HN1 := Aside0.mk (HN.out.trans (hB.mono hbR)); clear HN; have HN := HN1; clear HN1; have HNT1 := Aside0.mk (HNT.out.trans (hB.mono hbT)); clear HNT; have HNT := HNT1; clear HNT1; clear hV hR hB hCV)
          | (go_at_call 23; (with_reducible refine (crierlaw1_same.calls AV cV d D cd d true _ HCV.out hcV (Kd.C_below HDD.out HN.out) hcd HSD.out).mono ?_); rintro e w27 ⟨rfl, hD⟩; have hB := Drawn0.below hD (Below.refl w26.heap.size w26); have HR1 := Aside0.mk (HR.out.below hB); clear HR; have HR := HR1; clear HR1; have HN1 := Aside0.mk (HN.out.trans (hB.mono HN.out.size)); clear HN; have HN := HN1; clear HN1; have HNT1 := Aside0.mk (HNT.out.trans (hB.mono HNT.out.size)); clear HNT; have HNT := HNT1; clear HNT1; clear hD hB HCV)
          | (go_at_call 17; (with_reducible refine (at_any HR.out).mono ?_); rintro e w28 ⟨rfl, rfl⟩)
          | (go_at_call 20; (with_reducible refine (err_nil HR.out).mono ?_); rintro e w29 ⟨rfl, rfl⟩))
        clear HR
        go_wp2_with (first
          | (go_at_call 8; (with_reducible refine (num_id _ _).mono ?_); rintro e w23 ⟨rfl, rfl⟩)
          | (go_at_call 10; (with_reducible refine (crierlaw1_behind.calls AT cT _ M cm more vs _ (Kd.C_below HCT.out HNT.out) hcT (Kd.C_below HMD.out HN.out) hcm HBV.out).mono ?_); rintro e w34 ⟨v12, rfl, hR, hB⟩; obtain ⟨AU, cU, rfl, hcU, hCU⟩ := Kd.R_reads hR; have HCU := Aside0.mk hCU; have HN1 := Aside0.mk (HN.out.trans (hB.mono HN.out.size)); clear HN; have HN := HN1; clear HN1; clear hR hCU hB HCT)
          | (go_at_call 12; (with_reducible refine (read_any vs AU cU _ HCU.out (by have := HV2.out; omega)).mono ?_); rintro e w35 ⟨R, rfl, hR, hB⟩; have hbR := HN.out.size; have HR := Aside0.mk hR; have HN1 := Aside0.mk (HN.out.trans (hB.mono HN.out.size)); clear HN; have HN := HN1; clear HN1; clear hR hB HCU)
          | (go_at_call 25; refine (text_ok HR.out (by decide) (by have := HV2.out; omega) _ tb HV3.out (t.size : Int) HTN.out (by omega) (by have := HV2.out; omega) HV4.out HTC.out).mono ?_; rintro e w36 ⟨rfl, hR, hB⟩; rw [HST.out]; rw [HQT.out] at hR; clear HR; have HR := Aside0.mk hR; have HN1 := Aside0.mk (HN.out.trans (hB.mono hbR)); clear HN; have HN := HN1; clear HN1; clear hR hB)
          | (go_at_call 17; (with_reducible refine (at_any HR.out).mono ?_); rintro e w28 ⟨rfl, rfl⟩)
          | (go_at_call 20; (with_reducible refine (err_nil HR.out).mono ?_); rintro e w29 ⟨rfl, rfl⟩))
        go_ret
        exact ⟨rfl, HN.out⟩
      · as_aux_lemma =>
        have HT0 := Aside0.mk (show ((chk t).2 != 0) = true by simpa using ht)
        obtain ⟨e1, he1⟩ : ∃ e1 : Int, (chk t).2 = e1 := ⟨_, rfl⟩
        have te : (e1 == 0) = false := by rw [← he1]; simpa using ht
        have te2 : (e1 != 0) = true := by rw [← he1]; simpa using ht
        have HE1 := Aside0.mk he1
        clear ht he1
        go_upto_region 17 with (first
          | (go_at_call 21; refine (putText_bad (.slice none 0 0) t _ HT0.out).mono ?_; rintro e w21 ⟨rfl, hB⟩; rw [HE1.out]; have HNT := Aside0.mk (Below.refl w21.heap.size w21); have HN1 := Aside0.mk (HN.out.trans (hB.mono HN.out.size)); clear HN; have HN := HN1; clear HN1; clear hB)
          | (go_at_call 22; refine (putData_ok [] d none D 0 cd _ (Kd.C_nil _ _) (by decide) (Kd.C_below HDD.out HN.out) hdl).mono ?_; rintro e w22 ⟨v9, rfl, hR, hB⟩; rw [← HPD.out] at hR; obtain ⟨AD, cD, rfl, hcD, hCD⟩ := Kd.R_reads hR; have HCD := Aside0.mk hCD; have HN1 := Aside0.mk (HN.out.trans (hB.mono HN.out.size)); clear HN; have HN := HN1; clear HN1; have HNT1 := Aside0.mk (HNT.out.trans (hB.mono HNT.out.size)); clear HNT; have HNT := HNT1; clear HNT1; clear hR hCD hB)
          | (go_at_call 8; (with_reducible refine (num_id _ _).mono ?_); rintro e w23 ⟨rfl, rfl⟩)
          | (go_at_call 10; (with_reducible refine (crierlaw1_behind.calls AD cD _ M cm more us _ HCD.out hcD (Kd.C_below HMD.out HN.out) hcm HBU.out).mono ?_); rintro e w24 ⟨v10, rfl, hR, hB⟩; obtain ⟨AU, cU, rfl, hcU, hCU⟩ := Kd.R_reads hR; have HCU := Aside0.mk hCU; have HN1 := Aside0.mk (HN.out.trans (hB.mono HN.out.size)); clear HN; have HN := HN1; clear HN1; have HNT1 := Aside0.mk (HNT.out.trans (hB.mono HNT.out.size)); clear HNT; have HNT := HNT1; clear HNT1; clear hR hCU hB HCD)
          | (go_at_call 12; (with_reducible refine (read_any us AU cU _ HCU.out (by have := HU2.out; omega)).mono ?_); rintro e w25 ⟨R, rfl, hR, hB⟩; have hbR := HN.out.size; have hbT := HNT.out.size; have HR := Aside0.mk hR; have HN1 := Aside0.mk (HN.out.trans (hB.mono HN.out.size)); clear HN; have HN := HN1; clear HN1; have HNT1 := Aside0.mk (HNT.out.trans (hB.mono HNT.out.size)); clear HNT; have HNT := HNT1; clear HNT1; clear hR hB HCU)
          | (go_at_call 24; refine (rdata_ok HR.out (by decide) (by have := HU2.out; omega) _ d HU3.out (d.length : Int) HDN.out (by omega) (by have := HU2.out; omega) HU4.out (by omega)).mono ?_; rintro e w26 ⟨v11, rfl, hV, hR, hB⟩; rw [HQD.out] at hR; obtain ⟨AV, cV, rfl, hcV, hCV⟩ := Kd.R_reads hV; have HCV := Aside0.mk hCV; clear HR; have HR := Aside0.mk hR; have HN1 := Aside0.mk (HN.out.trans (hB.mono hbR)); clear HN; have HN := HN1; clear HN1; have HNT1 := Aside0.mk (HNT.out.trans (hB.mono hbT)); clear HNT; have HNT := HNT1; clear HNT1; clear hV hR hB hCV)
          | (go_at_call 23; (with_reducible refine (crierlaw1_same.calls AV cV d D cd d true _ HCV.out hcV (Kd.C_below HDD.out HN.out) hcd HSD.out).mono ?_); rintro e w27 ⟨rfl, hD⟩; have hB := Drawn0.below hD (Below.refl w26.heap.size w26); have HR1 := Aside0.mk (HR.out.below hB); clear HR; have HR := HR1; clear HR1; have HN1 := Aside0.mk (HN.out.trans (hB.mono HN.out.size)); clear HN; have HN := HN1; clear HN1; have HNT1 := Aside0.mk (HNT.out.trans (hB.mono HNT.out.size)); clear HNT; have HNT := HNT1; clear HNT1; clear hD hB HCV)
          | (go_at_call 17; (with_reducible refine (at_any HR.out).mono ?_); rintro e w28 ⟨rfl, rfl⟩)
          | (go_at_call 20; (with_reducible refine (err_nil HR.out).mono ?_); rintro e w29 ⟨rfl, rfl⟩))
        clear HR
        go_wp2_with (first
          | (go_at_call 8; (with_reducible refine (num_id _ _).mono ?_); rintro e w23 ⟨rfl, rfl⟩))
        go_ret
        exact ⟨rfl, HN.out⟩
    · have td : decide ((d.length : Int) ≤ 65535) = false := decide_eq_false (by omega)
      by_cases ht : (chk t).2 = 0
      · as_aux_lemma =>
        have hts : t.size ≤ 65535 := chk_size t ht
        have HTN := Aside0.mk (show joinG [(t.size : Int) / 256 % 256, (t.size : Int) % 256] = (t.size : Int) by rw [num2]; omega)
        have HTC := Aside0.mk (show (chk (strOfNums tb)).2 = 0 by rw [HST.out]; exact ht)
        have HT0 := Aside0.mk ht
        clear ht
        go_upto_region 17 with (first
          | (go_at_call 21; refine (putText_ok [] t none 0 _ (Kd.C_nil _ _) (by decide) HT0.out hts).mono ?_; rintro e w21 ⟨v8, rfl, hR, hB⟩; rw [← HPT.out] at hR; obtain ⟨AT, cT, rfl, hcT, hCT⟩ := Kd.R_reads hR; have HCT := Aside0.mk hCT; have HNT := Aside0.mk (Below.refl w21.heap.size w21); have HN1 := Aside0.mk (HN.out.trans (hB.mono HN.out.size)); clear HN; have HN := HN1; clear HN1; clear hR hCT hB)
          | (go_at_call 22; refine (putData_long d _ D cd _ (by omega)).mono ?_; rintro e w22 ⟨rfl, rfl⟩)
          | (go_at_call 8; (with_reducible refine (num_id _ _).mono ?_); rintro e w23 ⟨rfl, rfl⟩))
        go_wp2_with (first
          | (go_at_call 8; (with_reducible refine (num_id _ _).mono ?_); rintro e w23 ⟨rfl, rfl⟩)
          | (go_at_call 10; (with_reducible refine (crierlaw1_behind.calls AT cT _ M cm more vs _ (Kd.C_below HCT.out HNT.out) hcT (Kd.C_below HMD.out HN.out) hcm HBV.out).mono ?_); rintro e w34 ⟨v12, rfl, hR, hB⟩; obtain ⟨AU, cU, rfl, hcU, hCU⟩ := Kd.R_reads hR; have HCU := Aside0.mk hCU; have HN1 := Aside0.mk (HN.out.trans (hB.mono HN.out.size)); clear HN; have HN := HN1; clear HN1; clear hR hCU hB HCT)
          | (go_at_call 12; (with_reducible refine (read_any vs AU cU _ HCU.out (by have := HV2.out; omega)).mono ?_); rintro e w35 ⟨R, rfl, hR, hB⟩; have hbR := HN.out.size; have HR := Aside0.mk hR; have HN1 := Aside0.mk (HN.out.trans (hB.mono HN.out.size)); clear HN; have HN := HN1; clear HN1; clear hR hB HCU)
          | (go_at_call 25; refine (text_ok HR.out (by decide) (by have := HV2.out; omega) _ tb HV3.out (t.size : Int) HTN.out (by omega) (by have := HV2.out; omega) HV4.out HTC.out).mono ?_; rintro e w36 ⟨rfl, hR, hB⟩; rw [HST.out]; rw [HQT.out] at hR; clear HR; have HR := Aside0.mk hR; have HN1 := Aside0.mk (HN.out.trans (hB.mono hbR)); clear HN; have HN := HN1; clear HN1; clear hR hB)
          | (go_at_call 17; (with_reducible refine (at_any HR.out).mono ?_); rintro e w28 ⟨rfl, rfl⟩)
          | (go_at_call 20; (with_reducible refine (err_nil HR.out).mono ?_); rintro e w29 ⟨rfl, rfl⟩))
        go_ret
        exact ⟨rfl, HN.out⟩
      · as_aux_lemma =>
        have HT0 := Aside0.mk (show ((chk t).2 != 0) = true by simpa using ht)
        obtain ⟨e1, he1⟩ : ∃ e1 : Int, (chk t).2 = e1 := ⟨_, rfl⟩
        have te : (e1 == 0) = false := by rw [← he1]; simpa using ht
        have te2 : (e1 != 0) = true := by rw [← he1]; simpa using ht
        have HE1 := Aside0.mk he1
        clear ht he1
        go_upto_region 17 with (first
          | (go_at_call 21; refine (putText_bad (.slice none 0 0) t _ HT0.out).mono ?_; rintro e w21 ⟨rfl, hB⟩; rw [HE1.out]; have HNT := Aside0.mk (Below.refl w21.heap.size w21); have HN1 := Aside0.mk (HN.out.trans (hB.mono HN.out.size)); clear HN; have HN := HN1; clear HN1; clear hB)
          | (go_at_call 22; refine (putData_long d _ D cd _ (by omega)).mono ?_; rintro e w22 ⟨rfl, rfl⟩)
          | (go_at_call 8; (with_reducible refine (num_id _ _).mono ?_); rintro e w23 ⟨rfl, rfl⟩))
        go_wp2_with (first
          | (go_at_call 8; (with_reducible refine (num_id _ _).mono ?_); rintro e w23 ⟨rfl, rfl⟩))
        go_ret
        exact ⟨rfl, HN.out⟩

set_option maxRecDepth 100000 in
theorem back_long (w : World) (hg : EtAt w) (n : Int) (t : ByteArray) (d more : List Int) (D M : Option Addr) (cd cm : Nat) (h : (t.size : Int) > 140000 ∨ (d.length : Int) > 140000 ∨ (more.length : Int) > 140000) :
    Calls Tryd.prog 5 #[.int .i64 n, .string t, .slice D d.length cd, .slice M more.length cm] w fun e w' => e = .returned (.bool true) ∧ Below w.heap.size w w' := by
  by_cases h0 : (t.size : Int) > 140000
  · have b0 : decide ((t.size : Int) > 140000) = true := decide_eq_true h0
    clear h h0
    go_enter Tryd.func5, Tryd.ntmps5
    go_wp2_with (go_at_call 6; refine (known_true _ hg).mono ?_; rintro e w1 ⟨rfl, hB⟩)
    go_ret
    exact ⟨rfl, hB⟩
  · have b0 : decide ((t.size : Int) > 140000) = false := decide_eq_false h0
    by_cases h1 : (d.length : Int) > 140000
    · have b1 : decide ((d.length : Int) > 140000) = true := decide_eq_true h1
      clear h h0 h1
      go_enter Tryd.func5, Tryd.ntmps5
      go_wp2_with (go_at_call 6; refine (known_true _ hg).mono ?_; rintro e w1 ⟨rfl, hB⟩)
      go_ret
      exact ⟨rfl, hB⟩
    · have b1 : decide ((d.length : Int) > 140000) = false := decide_eq_false h1
      have b2 : decide ((more.length : Int) > 140000) = true := decide_eq_true (by omega)
      clear h h0 h1
      go_enter Tryd.func5, Tryd.ntmps5
      go_wp2_with (go_at_call 6; refine (known_true _ hg).mono ?_; rintro e w1 ⟨rfl, hB⟩)
      go_ret
      exact ⟨rfl, hB⟩
end Go.Proofs.YtjccmlmkcjmicaaDoor.Back

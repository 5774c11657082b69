/- The walk of crierlaw12.WindowLater. No condition. -/
import Derived.Test.YtjccmlmkcjmicaaWinLaterLaw
namespace Go.Proofs.Ytjccmlmkcjmicaa.Win
open Go Go.RowKit Go.Maps Go.MapKept Go.ChangeMaps Go.Proofs.YtjccmlmkcjmicaaW.PrintWords Go.Proofs.YtjccmlmkcjmicaaW.PrintLast Go.Proofs.Ytjccmlmkcjmicaa.Kinds Go.Proofs.Ytjccmlmkcjmicaa.PWindowHolds
set_option linter.unusedVariables false
set_option linter.unusedSimpArgs false

theorem OpAt.keep {w X : World} {ad : Addr} {o : OpV} {Ap : Option Addr} {cp : Nat} (h : OpAt w ad o Ap cp) (hb : Below w.heap.size w X) : OpAt X ad o Ap cp :=
  ⟨cell_keep hb _ _ h.kind, cell_keep hb _ _ h.second, cell_keep hb _ _ h.topic, cell_keep hb _ _ h.payload, cell_keep hb _ _ h.qos, cell_keep hb _ _ h.retain, cell_keep hb _ _ h.a, cell_keep hb _ _ h.n, h.cap, Kd.C_below h.read hb⟩
/-- what holds of both windows -/
structure LaterI (s : WS) : Prop where
  inv : WInv s
  pl : WPl s
theorem LaterI.play {s : WS} (h : LaterI s) (o : OpV) (hm : Short o.m) : LaterI (playF s o).2 := ⟨(playF_inv h.inv o).1, playF_pl h.pl o hm⟩

set_option maxRecDepth 100000 in
set_option maxHeartbeats 8000000 in
theorem later_walk (n q : Int) (A : Option Addr) (c : Nat) (l : List S78) (A' : Option Addr) (c' : Nat) (l' : List S78) (w : World) (hr : Kd.C k78 w A l.length l) (hc : l.length ≤ c) (hl : l.length ≤ maxLen) (hg : ∀ x ∈ l, OpGood x)
    (hr' : Kd.C k78 w A' l'.length l') (hc' : l'.length ≤ c') (hl' : l'.length ≤ maxLen) (hg' : ∀ x ∈ l', OpGood x) :
    Calls Try.prog 13 #[.int .i64 n, .int .i64 q, .slice A l.length c, .slice A' l'.length c'] w fun e w' => e = .returned (.bool true) ∧ Below w.heap.size w w' := by
  have HR := Aside0.mk hr
  have HG := Aside0.mk hg
  have HR' := Aside0.mk hr'
  have HG' := Aside0.mk hg'
  unfold maxLen at hl hl'
  clear hr hg hr' hg'
  go_enter Try.func13, Try.ntmps13
  go_wp2_with fail
  refine (known_any w).mono ?_
  rintro e w1 ⟨rfl, hb1⟩
  have HB1 := Aside0.mk hb1
  clear hb1
  go_wp2_with fail
  refine (few_any A c l w1 (Kd.C_below HR.out HB1.out) hc hl (fun x hx => (HG.out x hx).1)).mono ?_
  rintro e w2 ⟨r, rfl, hfew, hb2⟩
  have HB2 := Aside0.mk (HB1.out.trans (hb2.mono HB1.out.size))
  clear HB1 hb2
  cases r
  · clear hfew
    go_wp2
    go_ret
    exact ⟨rfl, HB2.out⟩
  obtain ⟨h300, hsh⟩ := hfew rfl
  have HSH := Aside0.mk hsh
  clear hfew hsh
  go_wp2_with fail
  refine (few_any A' c' l' w2 (Kd.C_below HR'.out HB2.out) hc' hl' (fun x hx => (HG'.out x hx).1)).mono ?_
  rintro e w3 ⟨r, rfl, hfew, hb2⟩
  have HB3 := Aside0.mk (HB2.out.trans (hb2.mono HB2.out.size))
  clear HB2 hb2
  cases r
  · clear hfew
    go_wp2
    go_ret
    exact ⟨rfl, HB3.out⟩
  obtain ⟨h300', hsh⟩ := hfew rfl
  have HSH' := Aside0.mk hsh
  clear hfew hsh
  go_wp2_with fail
  refine (new_any n q w3).mono ?_
  rintro e w4 ⟨B, rfl, hw, hb⟩
  have hz3 := HB3.out.size
  have H0 := Aside0.mk (show WinAt' w4 w.heap.size (fun k => w.heap.size ≤ k) B (newS n q) from (hw.lower3 hz3).mono (fun k hk => by omega))
  have HI0 := Aside0.mk (show LInv (newS n q) ∧ (newS n q).window = clampI 1 65535 n ∧ (newS n q).queue = clampI 0 65536 q from ⟨newS_linv n q, rfl, rfl⟩)
  have HB4 := Aside0.mk (HB3.out.trans (hb.mono hz3))
  clear hw hb HB3 hz3
  go_wp2_with fail
  go_loopg [10] l.length (fun q' i wr => ∃ (k : Nat) (s : WS), k + q' = l.length ∧ i = .int .i64 (k : Int) ∧ Aside0 (WinAt' wr w.heap.size (fun k => w.heap.size ≤ k) B s) ∧ Aside0 (LInv s ∧ s.window = clampI 1 65535 n ∧ s.queue = clampI 0 65536 q) ∧ Aside0 (Below w.heap.size w wr))
  case atStart => exact ⟨0, _, by omega, rfl, H0, HI0, HB4⟩
  case round =>
    clear H0 HI0 HB4
    obtain ⟨k, s, hk, rfl, H, HI, HB⟩ := hrel
    have HK := Aside0.mk hk
    clear hk
    by_cases hlt : k < l.length
    · skip
      --BEG
      have hk1 : (k : Int) < l.length := by omega
      have hkb : (k : Int) ≤ 300 := by omega
      obtain ⟨ad, Ap, cp, hAd, hop⟩ := op_at (Kd.C_below HR.out HB.out) k hlt
      subst hAd
      have hmem : l.getD k z78 ∈ l := by rw [List.getD_eq_getElem?_getD, List.getElem?_eq_getElem hlt]; exact List.getElem_mem _
      have HGO := Aside0.mk (HG.out _ hmem)
      have HSO := Aside0.mk (HSH.out _ hmem)
      have HKL := Aside0.mk hlt
      generalize l.getD k z78 = x at *
      clear hmem hlt
      obtain ⟨kind, sec, ⟨t, pp, qs, rt⟩, oa, on⟩ := x
      have HOP := Aside0.mk hop
      have o0 := hop.kind
      dsimp only [opOf] at o0
      clear hop
      by_cases k5 : kind = 5
      · subst k5
        go_wp2_with fail
        go_roundg (l.length - (k + 1))
        case measure => have := HK.out; have := HKL.out; omega
        case rel => exact ⟨k + 1, _, by have := HKL.out; omega, by go_num, H, HI, HB⟩
      · have j5 : (kind != 5) = true := by simpa using k5
        have o1 := HOP.out.second
        have o2 := HOP.out.topic
        have o3 := HOP.out.payload
        have o4 := HOP.out.qos
        have o5 := HOP.out.retain
        have o6 := HOP.out.a
        have o7 := HOP.out.n
        dsimp only [opOf] at o1 o2 o3 o4 o5 o6 o7
        have HP := Aside0.mk (play_any H.out HI.out.1.inv HI.out.1.pl (opOf ⟨kind, sec, ⟨t, pp, qs, rt⟩, oa, on⟩) Ap cp HOP.out.read HSO.out HGO.out.2.2.2 w HB.out HB.out.size (fun k hk => hk))
        have HI5 := Aside0.mk (show LInv (playF s (opOf ⟨kind, sec, ⟨t, pp, qs, rt⟩, oa, on⟩)).2 ∧ (playF s (opOf ⟨kind, sec, ⟨t, pp, qs, rt⟩, oa, on⟩)).2.window = clampI 1 65535 n ∧ (playF s (opOf ⟨kind, sec, ⟨t, pp, qs, rt⟩, oa, on⟩)).2.queue = clampI 0 65536 q from
          ⟨HI.out.1.play _ HSO.out k5, ((playF_inv HI.out.1.inv _).2.window).trans HI.out.2.1, ((playF_inv HI.out.1.inv _).2.queue).trans HI.out.2.2⟩)
        clear k5
        go_wp2_with fail
        refine HP.out.mono ?_
        rintro e w5 ⟨v, okp, rfl, hF⟩
        have H5 := Aside0.mk (show WinAt' w5 w.heap.size (fun k => w.heap.size ≤ k) B (playF s (opOf ⟨kind, sec, ⟨t, pp, qs, rt⟩, oa, on⟩)).2 from hF.win.mono (fun k hk => hk.1.elim id (fun h => Nat.le_trans HB.out.size h.1)))
        have HB5 := Aside0.mk hF.bel
        clear hF HP H HI HB o0 o1 o2 o3 o4 o5 o6 o7 j5 HOP
        go_wp2_with fail
        go_roundg (l.length - (k + 1))
        case measure => have := HK.out; have := HKL.out; omega
        case rel => exact ⟨k + 1, _, by have := HKL.out; omega, by go_num, H5, HI5, HB5⟩
      --END
    · have hk1 : decide ((k : Int) < l.length) = false := decide_eq_false (by omega)
      have hk2 : decide (k < l.length) = false := decide_eq_false hlt
      clear hlt HK
      obtain ⟨ok1, hok1, hok2, hok3, hH⟩ := H.out.bound2
      have HW := Aside0.mk hH
      have HOK := Aside0.mk (And.intro hok1 hok2)
      clear hok1 hok2 hok3 hH H
      go_wp2_with fail
      refine (image_any HW.out HI.out.1.inv.ok HI.out.1.pl).mono ?_
      rintro e w5 ⟨vF, vQ, rfl, hRF, hRQ, hb⟩
      have HW5 := Aside0.mk (HW.out.below hb)
      have HB5 := Aside0.mk (HB.out.trans (hb.mono HB.out.size))
      obtain ⟨AF, cF, hvF⟩ := Kd.R_slice hRF
      obtain ⟨AQ, cQ, hvQ⟩ := Kd.R_slice hRQ
      subst hvF hvQ
      have HOF := Aside0.mk (of_any n q s.last AF AQ cF cQ s.flights s.waits w5 (Kd.R_reads' hRF).2.2 (Kd.R_reads' hRQ).2.2 (HI.out.1.img HI.out.2.1 HI.out.2.2))
      rw [HI.out.1.of HI.out.2.1 HI.out.2.2] at HOF
      have hsz5 : wr.heap.size ≤ w5.heap.size := hb.size
      clear hRF hRQ hb HW HB
      go_wp2_with fail
      refine HOF.out.mono ?_
      rintro e w6 ⟨B2, rfl, hw2, hb2⟩
      have HT := Aside0.mk (show TwoM w w6 B B2 s { s with online := false } ok1 (fun k => w5.heap.size ≤ k ∧ k < w6.heap.size) from
        ⟨HW5.out.below hb2, hw2.lower3 HB5.out.size, fun k hk => ⟨HOK.out.2 k hk, by have := HOK.out.1 k hk; have := hb2.size; omega⟩, fun k hk => ⟨Nat.le_trans HB5.out.size hk.1, hk.2, fun e => by have := HOK.out.1 k e; omega⟩, HB5.out.trans (hb2.mono HB5.out.size)⟩)
      clear hw2 hb2 HW5 HB5 HOF hsz5
      go_wp2_with fail
      refine (down_any HT.out.w1).mono ?_
      rintro e w7 ⟨rfl, hw7, hf7⟩
      have HT7 := Aside0.mk (show TwoM w w7 B B2 { s with online := false } { s with online := false } ok1 (fun k => w5.heap.size ≤ k ∧ k < w6.heap.size) from
        ⟨hw7, HT.out.w2.fr hf7 (fun k hk e => (HT.out.l2 k hk).2.2 e), fun k hk => ⟨(HT.out.l1 k hk).1, Nat.lt_of_lt_of_le (HT.out.l1 k hk).2 hf7.size⟩, fun k hk => ⟨(HT.out.l2 k hk).1, Nat.lt_of_lt_of_le (HT.out.l2 k hk).2.1 hf7.size, (HT.out.l2 k hk).2.2⟩, hf7.below HT.out.bel (fun k hk => (HT.out.l1 k hk).1) HT.out.bel.size⟩)
      have HI7 := Aside0.mk (show LaterI { s with online := false } from ⟨down_inv HI.out.1.inv, ⟨HI.out.1.pl.waits, HI.out.1.pl.flights⟩⟩)
      clear hw7 hf7 HT HI HOK
      go_wp2_with (go_at_call 25; refine (num_any _ _).mono ?_; rintro e w8 ⟨rfl, rfl⟩)
      refine (online_any HT7.out.w2).mono ?_
      rintro e w8 ⟨rfl, rfl⟩
      go_wp2_with fail
      clear hk1 hk2
      generalize { s with online := false } = s0 at *
      generalize (fun k => w5.heap.size ≤ k ∧ k < w6.heap.size) = ok2 at *
      go_loopg [13] l'.length (fun q' i wr => ∃ (k : Nat) (s : WS) (ok1 ok2 : Nat → Prop), k + q' = l'.length ∧ i = .int .i64 (k : Int) ∧ Aside0 (TwoM w wr B B2 s s ok1 ok2) ∧ Aside0 (LaterI s))
      case atStart => exact ⟨0, _, _, _, by omega, rfl, HT7, HI7⟩
      case round =>
        clear HT7 HI7
        obtain ⟨k, s, ok1, ok2, hk, rfl, H, HI⟩ := hrel
        have HK := Aside0.mk hk
        clear hk
        by_cases hlt : k < l'.length
        · skip
          --BEG
          have hk1 : (k : Int) < l'.length := by omega
          have hkb : (k : Int) ≤ 300 := by omega
          have hk0 : (0 : Int) ≤ (k : Int) := by omega
          obtain ⟨ad, Ap, cp, hAd, hop0⟩ := op_at HR'.out k hlt
          subst hAd
          have hmem : l'.getD k z78 ∈ l' := by rw [List.getD_eq_getElem?_getD, List.getElem?_eq_getElem hlt]; exact List.getElem_mem _
          have HGO := Aside0.mk (HG'.out _ hmem)
          have HSO := Aside0.mk (HSH'.out _ hmem)
          have HKL := Aside0.mk hlt
          generalize l'.getD k z78 = x at *
          clear hmem hlt
          have HKeepW := Aside0.mk (fun (X : World) (hb : Below w.heap.size w X) (p : Addr) (v : Value) (h : w.cell? p = some v) => cell_keep hb p v h)
          have HT := Aside0.mk (H.out.below (below_drew (Below.refl wr.heap.size wr)))
          have HPf := Aside0.mk (fun (X : World) (C1 C2 : Nat) (sx : WS) (kx ky : Nat → Prop) (hT : TwoM w X C1 C2 s sx kx ky) => play_any hT.w1 HI.out.inv HI.out.pl (opOf x) Ap cp (Kd.C_below hop0.read hT.bel) HSO.out HGO.out.2.2.2 w hT.bel hT.bel.size (fun k hk => (hT.l1 k hk).1))
          have HP1 := Aside0.mk (HPf.out _ _ _ _ _ _ HT.out)
          have HP2f := Aside0.mk (fun (X : World) (sx : WS) (kx : Nat → Prop) (hT : TwoM w X B B2 sx s kx ok2) => HPf.out X B2 B sx ok2 kx hT.swap)
          have hopr := hop0.keep H.out.bel
          have HIP := Aside0.mk (HI.out.play (opOf x) HSO.out)
          have HBP := Aside0.mk (playF_bare s (opOf x))
          have hpl := playF_len2 HI.out.inv.ok (opOf x)
          generalize playF s (opOf x) = R at *
          obtain ⟨ps, s'⟩ := R
          dsimp only at *
          obtain ⟨kind, sec, ⟨t, pp, qs, rt⟩, oa, on⟩ := x
          have o0 := hopr.kind
          have o1 := hopr.second
          have o2 := hopr.topic
          have o3 := hopr.payload
          have o4 := hopr.qos
          have o5 := hopr.retain
          have o6 := hopr.a
          have o7 := hopr.n
          have i0 := hop0.kind
          have i1 := hop0.second
          have i2 := hop0.topic
          have i3 := hop0.payload
          have i4 := hop0.qos
          have i5 := hop0.retain
          have i6 := hop0.a
          have i7 := hop0.n
          dsimp only [opOf] at o0 o1 o2 o3 o4 o5 o6 o7 i0 i1 i2 i3 i4 i5 i6 i7
          clear hopr hop0 HPf
          simp only [opCells, opOf] at HP1 HP2f
          go_upto_region 20 with fail
          refine start_ (n := 14) (S := fun w' => w'.cell? (ad.add (k * 8)) = some (.int .i64 kind) ∧ w'.cell? ⟨(ad.add (k * 8)).block, (ad.add (k * 8)).off + 1, none⟩ = some (.bool sec) ∧ w'.cell? ⟨(ad.add (k * 8)).block, (ad.add (k * 8)).off + 2, none⟩ = some (.string t) ∧ w'.cell? ⟨(ad.add (k * 8)).block, (ad.add (k * 8)).off + 3, none⟩ = some (.slice Ap pp.length cp) ∧ w'.cell? ⟨(ad.add (k * 8)).block, (ad.add (k * 8)).off + 4, none⟩ = some (.int .i64 qs) ∧ w'.cell? ⟨(ad.add (k * 8)).block, (ad.add (k * 8)).off + 5, none⟩ = some (.bool rt) ∧ w'.cell? ⟨(ad.add (k * 8)).block, (ad.add (k * 8)).off + 6, none⟩ = some (.int .i64 oa) ∧ w'.cell? ⟨(ad.add (k * 8)).block, (ad.add (k * 8)).off + 7, none⟩ = some (.int .i64 on)) (ds := []) #[false, false, false, false, false, false, false, false, false, false, false, false, false, false] (by kernel_rfl) rfl rfl ⟨o0, o1, o2, o3, o4, o5, o6, o7⟩ (fun hHeld => ?_)
          refine pure_ (i := 0) (N := some 77) (v := ?_) (a' := ?_) #[true, false, false, false, false, false, false, false, false, false, false, false, false, false] rfl rfl (by kernel_rfl) (fun _ _ _ h => h) (Or.inl ⟨by rfl, ?_⟩) ?_ ?_
          rotate_left
          · intro w'
            go_simp
            with_reducible rfl
          rotate_left
          · simp only [Act.put, List.setIfInBounds_toArray, List.set_cons_zero, List.set_cons_succ, i64_w, i32_w]
            rfl
          refine pure_ (i := 1) (N := some 78) (v := ?_) (a' := ?_) #[true, true, false, false, false, false, false, false, false, false, false, false, false, false] rfl rfl (by kernel_rfl) (fun _ _ _ h => h) (Or.inl ⟨by rfl, ?_⟩) ?_ ?_
          rotate_left
          · intro w'
            go_simp
            with_reducible rfl
          rotate_left
          · simp only [Act.put, List.setIfInBounds_toArray, List.set_cons_zero, List.set_cons_succ, i64_w, i32_w]
            rfl
          refine pure_ (i := 2) (N := some 79) (v := ?_) (a' := ?_) #[true, true, true, false, false, false, false, false, false, false, false, false, false, false] rfl rfl (by kernel_rfl) (fun _ _ _ h => h) (Or.inl ⟨by rfl, ?_⟩) ?_ ?_
          rotate_left
          · intro w'
            go_simp
            with_reducible rfl
          rotate_left
          · simp only [Act.put, List.setIfInBounds_toArray, List.set_cons_zero, List.set_cons_succ, i64_w, i32_w]
            rfl
          refine pure_ (i := 3) (N := some 80) (v := ?_) (a' := ?_) #[true, true, true, true, false, false, false, false, false, false, false, false, false, false] rfl rfl (by kernel_rfl) (fun _ _ _ h => h) (Or.inl ⟨by rfl, ?_⟩) ?_ ?_
          rotate_left
          · intro w'
            go_simp
            with_reducible rfl
          rotate_left
          · simp only [Act.put, List.setIfInBounds_toArray, List.set_cons_zero, List.set_cons_succ, i64_w, i32_w]
            rfl
          refine pure_ (i := 6) (N := some 83) (v := ?_) (a' := ?_) #[true, true, true, true, false, false, true, false, false, false, false, false, false, false] rfl rfl (by kernel_rfl) (fun _ _ _ h => h) (Or.inl ⟨by rfl, ?_⟩) ?_ ?_
          rotate_left
          · intro w'
            go_simp
            with_reducible rfl
          rotate_left
          · simp only [Act.put, List.setIfInBounds_toArray, List.set_cons_zero, List.set_cons_succ, i64_w, i32_w]
            rfl
          refine pure_ (i := 7) (N := some 84) (v := ?_) (a' := ?_) #[true, true, true, true, false, false, true, true, false, false, false, false, false, false] rfl rfl (by kernel_rfl) (fun _ _ _ h => h) (Or.inl ⟨by rfl, ?_⟩) ?_ ?_
          rotate_left
          · intro w'
            go_simp
            with_reducible rfl
          rotate_left
          · simp only [Act.put, List.setIfInBounds_toArray, List.set_cons_zero, List.set_cons_succ, i64_w, i32_w]
            rfl
          refine pure_ (i := 8) (N := some 85) (v := ?_) (a' := ?_) #[true, true, true, true, false, false, true, true, true, false, false, false, false, false] rfl rfl (by kernel_rfl) (fun _ _ _ h => h) (Or.inl ⟨by rfl, ?_⟩) ?_ ?_
          rotate_left
          · intro w'
            go_simp
            with_reducible rfl
          rotate_left
          · simp only [Act.put, List.setIfInBounds_toArray, List.set_cons_zero, List.set_cons_succ, i64_w, i32_w]
            rfl
          refine pure_ (i := 9) (N := some 86) (v := ?_) (a' := ?_) #[true, true, true, true, false, false, true, true, true, true, false, false, false, false] rfl rfl (by kernel_rfl) (fun _ _ _ h => h) (Or.inl ⟨by rfl, ?_⟩) ?_ ?_
          rotate_left
          · intro w'
            go_simp
            with_reducible rfl
          rotate_left
          · simp only [Act.put, List.setIfInBounds_toArray, List.set_cons_zero, List.set_cons_succ, i64_w, i32_w]
            rfl
          refine take_ (i := 4) (N := some 81) (v := ?_) (a' := ?_) #[true, true, true, true, true, false, true, true, true, true, false, false, false, false] rfl rfl (by kernel_rfl) (fun _ _ _ h => h) (Or.inl ⟨by rfl, ?_⟩) hHeld ?_ ?_
          rotate_left
          · rintro w' ⟨s0, s1, s2, s3, s4, s5, s6, s7⟩
            go_simp
            with_reducible rfl
          rotate_left
          · simp only [Act.put, List.setIfInBounds_toArray, List.set_cons_zero, List.set_cons_succ, i64_w, i32_w]
            rfl
          refine take_ (i := 10) (N := some 87) (v := ?_) (a' := ?_) #[true, true, true, true, true, false, true, true, true, true, true, false, false, false] rfl rfl (by kernel_rfl) (fun _ _ _ h => h) (Or.inl ⟨by rfl, ?_⟩) hHeld ?_ ?_
          rotate_left
          · rintro w' ⟨s0, s1, s2, s3, s4, s5, s6, s7⟩
            go_simp
            with_reducible rfl
          rotate_left
          · simp only [Act.put, List.setIfInBounds_toArray, List.set_cons_zero, List.set_cons_succ, i64_w, i32_w]
            rfl
          refine one_ (i := 5) (N := some 82) #[true, true, true, true, true, true, true, true, true, true, true, false, false, false] rfl rfl (by kernel_rfl) (by decide) (fun K hK => ?_)
          refine goes_ Try.func31 (by kernel_rfl) rfl #[.pointer (some ⟨B, 0, none⟩), .agg #[.int .i64 kind, .bool sec, .string t, .slice Ap pp.length cp, .int .i64 qs, .bool rt, .int .i64 oa, .int .i64 on]] (by rfl) rfl rfl (by simp only [List.map_toArray, List.map_cons, List.map_nil]; rfl) ?_
          with_reducible refine (HP1.out).mono ?_
          rintro e w4 ⟨v1, okp1, rfl, hF1⟩
          refine ⟨_, rfl, ?_⟩
          have hk4 := HKeepW.out w4 (hF1.bel)
          have HC1 := Aside0.mk (HT.out.call hF1)
          have HF1 := Aside0.mk hF1
          have HP2 := Aside0.mk (HP2f.out w4 _ _ HC1.out)
          clear hF1
          refine hK.out _ _ ⟨hk4 _ _ i0, hk4 _ _ i1, hk4 _ _ i2, hk4 _ _ i3, hk4 _ _ i4, hk4 _ _ i5, hk4 _ _ i6, hk4 _ _ i7⟩ (fun hHeld => ?_)
          clear hK K
          refine norm_ (a' := ?_) ?_ ?_
          rotate_left
          · show Act.put _ (some 82) _ = _
            simp only [Act.put, List.setIfInBounds_toArray, List.set_cons_zero, List.set_cons_succ, i64_w, i32_w]
            rfl
          refine one_ (i := 11) (N := some 88) #[true, true, true, true, true, true, true, true, true, true, true, true, false, false] rfl rfl (by kernel_rfl) (by decide) (fun K hK => ?_)
          refine goes_ Try.func31 (by kernel_rfl) rfl #[.pointer (some ⟨B2, 0, none⟩), .agg #[.int .i64 kind, .bool sec, .string t, .slice Ap pp.length cp, .int .i64 qs, .bool rt, .int .i64 oa, .int .i64 on]] (by rfl) rfl rfl (by simp only [List.map_toArray, List.map_cons, List.map_nil]; rfl) ?_
          with_reducible refine (HP2.out).mono ?_
          rintro e w5 ⟨v2, okp2, rfl, hF2⟩
          refine ⟨_, rfl, ?_⟩
          have hk5 := HKeepW.out w5 (hF2.bel)
          have HF2 := Aside0.mk hF2
          clear hF2
          refine hK.out _ _ ⟨hk5 _ _ i0, hk5 _ _ i1, hk5 _ _ i2, hk5 _ _ i3, hk5 _ _ i4, hk5 _ _ i5, hk5 _ _ i6, hk5 _ _ i7⟩ (fun hHeld => ?_)
          clear hK K
          refine norm_ (a' := ?_) ?_ ?_
          rotate_left
          · show Act.put _ (some 88) _ = _
            simp only [Act.put, List.setIfInBounds_toArray, List.set_cons_zero, List.set_cons_succ, i64_w, i32_w]
            rfl
          refine pure_ (i := 12) (N := some 14) (v := ?_) (a' := ?_) #[true, true, true, true, true, true, true, true, true, true, true, true, true, false] rfl rfl (by kernel_rfl) (fun _ _ _ h => h) (Or.inl ⟨by rfl, ?_⟩) ?_ ?_
          rotate_left
          · intro w'
            go_simp
            with_reducible rfl
          rotate_left
          · simp only [Act.put, List.setIfInBounds_toArray, List.set_cons_zero, List.set_cons_succ, i64_w, i32_w]
            rfl
          refine pure_ (i := 13) (N := some 15) (v := ?_) (a' := ?_) #[true, true, true, true, true, true, true, true, true, true, true, true, true, true] rfl rfl (by kernel_rfl) (fun _ _ _ h => h) (Or.inl ⟨by rfl, ?_⟩) ?_ ?_
          rotate_left
          · intro w'
            go_simp
            with_reducible rfl
          rotate_left
          · simp only [Act.put, List.setIfInBounds_toArray, List.set_cons_zero, List.set_cons_succ, i64_w, i32_w]
            rfl
          refine done_ (by kernel_rfl) ?_
          have HT5 := Aside0.mk (show TwoM w w5 B B2 s' s' _ _ from (HC1.out.swap.call HF2.out).swap)
          have hp1 : kPkt.R 75 w5 w.heap.size okp1 v1 ps := Kd.R_lower (R_fr HF1.out.pk HF2.out.fr (fun kk hkk e => by
            have h1 := (HF1.out.new kk hkk).1
            have h2 := (HT.out.l2 kk e).2.1
            omega)) HT.out.bel.size
          have hp2 : kPkt.R 75 w5 w.heap.size okp2 v2 ps := Kd.R_lower HF2.out.pk HC1.out.bel.size
          obtain ⟨X1, n1, hv1⟩ := Kd.R_slice hp1
          obtain ⟨X2, n2, hv2⟩ := Kd.R_slice hp2
          subst hv1 hv2
          have HP1 := Aside0.mk hp1
          have HP2 := Aside0.mk hp2
          have e1 : ((ps.length : Int) != ps.length) = false := by simp
          have e2 : ((s'.flights.length : Int) != s'.flights.length) = false := by simp
          have e3 : ((s'.waits.length : Int) != s'.waits.length) = false := by simp
          have e4 : (s'.online != s'.online) = false := by simp
          clear hp1 hp2 HF1 HF2 HC1 HT H HI HKeepW HP2f hHeld o0 o1 o2 o3 o4 o5 o6 o7 i0 i1 i2 i3 i4 i5 i6 i7 hk4 hk5
          go_wp2_with fail
          refine (flying_any HT5.out.w1).mono ?_
          rintro e w6 ⟨rfl, rfl⟩
          go_wp2_with fail
          refine (flying_any HT5.out.w2).mono ?_
          rintro e w6 ⟨rfl, rfl⟩
          go_wp2_with fail
          refine (waiting_any HT5.out.w1).mono ?_
          rintro e w6 ⟨rfl, rfl⟩
          go_wp2_with fail
          refine (waiting_any HT5.out.w2).mono ?_
          rintro e w6 ⟨rfl, rfl⟩
          go_wp2_with fail
          refine (online_any HT5.out.w1).mono ?_
          rintro e w6 ⟨rfl, rfl⟩
          go_wp2_with fail
          refine (online_any HT5.out.w2).mono ?_
          rintro e w6 ⟨rfl, rfl⟩
          go_wp2_with fail
          clear e1 e2 e3 e4
          go_loopg [16] ps.length (fun q' i wr => ∃ j : Nat, j + q' = ps.length ∧ i = .int .i64 (j : Int) ∧ Aside0 (Below w5.heap.size w5 wr))
          case atStart => exact ⟨0, by omega, rfl, ⟨Below.refl _ _⟩⟩
          case round =>
            obtain ⟨j, hj, rfl, HZ⟩ := hrel
            have HJ := Aside0.mk hj
            clear hj
            by_cases hlj : j < ps.length
            · as_aux_lemma =>
                have hj1 : (j : Int) < ps.length := by omega
                have hj0 : (0 : Int) ≤ (j : Int) := by omega
                have hjb : (j : Int) ≤ 131072 := by omega
                have hp1 := Kd.R_below HP1.out HZ.out
                have hp2 := Kd.R_below HP2.out HZ.out
                obtain ⟨g1, n1', hx1, _⟩ := Kd.R_form hp1 (by omega)
                obtain ⟨g2, n2', hx2, _⟩ := Kd.R_form hp2 (by omega)
                injection hx1 with a1 a2 a3
                injection hx2 with a4 a5 a6
                subst a1 a3 a4 a6
                obtain ⟨cs1, _, hM1, hc1, _⟩ := Kd.R_elem hp1 noPkt (j : Int) (by omega) (by omega)
                obtain ⟨cs2, _, hM2, hc2, _⟩ := Kd.R_elem hp2 noPkt (j : Int) (by omega) (by omega)
                simp only [Int.toNat_natCast] at hM1 hc1 hM2 hc2
                have hbare : Bare (ps.getD j noPkt) := HBP.out _ (by rw [List.getD_eq_getElem?_getD, List.getElem?_eq_getElem hlj]; exact List.getElem_mem _)
                have hK1 := kPkt.K_of_M hM1
                have hK2 := kPkt.K_of_M hM2
                have hl1 : cs1.length = 25 := kPkt.K_len hK1
                have hl2 : cs2.length = 25 := kPkt.K_len hK2
                have HL1 := Aside0.mk (show (Try.prog.info? 75).map (·.size) = some cs1.length by rw [hl1]; exact pktSize)
                have HL2 := Aside0.mk (show (Try.prog.info? 75).map (·.size) = some cs2.length by rw [hl2]; exact pktSize)
                have HSM := Aside0.mk (same_any (ps.getD j noPkt) hbare.1 hbare.2.1 hbare.2.2 cs1 cs2 wr.drew (kPkt.K_below (below_drew (Below.refl wr.heap.size wr)) hK1) (kPkt.K_below (below_drew (Below.refl wr.heap.size wr)) hK2))
                have HC12 := Aside0.mk (show wr.rangeAt g1 (j * 25) cs1 ∧ wr.rangeAt g2 (j * 25) cs2 from ⟨hc1, hc2⟩)
                have HJL := Aside0.mk hlj
                clear hM1 hM2 hK1 hK2 hbare hp1 hp2 hlj hl1 hl2 hc1 hc2
                go_wp2_with fail
                have hc1 := HC12.out.1
                have hc2 := HC12.out.2
                refine start_ (n := 10) (S := fun w' => w'.rangeAt g1 (j * 25) cs1 ∧ w'.rangeAt g2 (j * 25) cs2) (ds := []) #[false, false, false, false, false, false, false, false, false, false] (by kernel_rfl) rfl rfl ⟨hc1, hc2⟩ (fun hHeld => ?_)
                refine pure_ (i := 0) (N := some 121) (v := ?_) (a' := ?_) #[true, false, false, false, false, false, false, false, false, false] rfl rfl (by kernel_rfl) (fun _ _ _ h => h) (Or.inl ⟨by rfl, ?_⟩) ?_ ?_
                rotate_left
                · intro w'
                  go_simp
                  with_reducible rfl
                rotate_left
                · simp only [Act.put, List.setIfInBounds_toArray, List.set_cons_zero, List.set_cons_succ, i64_w, i32_w]
                  rfl
                refine pure_ (i := 1) (N := some 122) (v := ?_) (a' := ?_) #[true, true, false, false, false, false, false, false, false, false] rfl rfl (by kernel_rfl) (fun _ _ _ h => h) (Or.inl ⟨by rfl, ?_⟩) ?_ ?_
                rotate_left
                · intro w'
                  go_simp
                  with_reducible rfl
                rotate_left
                · simp only [Act.put, List.setIfInBounds_toArray, List.set_cons_zero, List.set_cons_succ, i64_w, i32_w]
                  rfl
                refine pure_ (i := 2) (N := some 123) (v := ?_) (a' := ?_) #[true, true, true, false, false, false, false, false, false, false] rfl rfl (by kernel_rfl) (fun _ _ _ h => h) (Or.inl ⟨by rfl, ?_⟩) ?_ ?_
                rotate_left
                · intro w'
                  go_simp
                  with_reducible rfl
                rotate_left
                · simp only [Act.put, List.setIfInBounds_toArray, List.set_cons_zero, List.set_cons_succ, i64_w, i32_w]
                  rfl
                refine pure_ (i := 4) (N := some 125) (v := ?_) (a' := ?_) #[true, true, true, false, true, false, false, false, false, false] rfl rfl (by kernel_rfl) (fun _ _ _ h => h) (Or.inl ⟨by rfl, ?_⟩) ?_ ?_
                rotate_left
                · intro w'
                  go_simp
                  with_reducible rfl
                rotate_left
                · simp only [Act.put, List.setIfInBounds_toArray, List.set_cons_zero, List.set_cons_succ, i64_w, i32_w]
                  rfl
                refine pure_ (i := 5) (N := some 126) (v := ?_) (a' := ?_) #[true, true, true, false, true, true, false, false, false, false] rfl rfl (by kernel_rfl) (fun _ _ _ h => h) (Or.inl ⟨by rfl, ?_⟩) ?_ ?_
                rotate_left
                · intro w'
                  go_simp
                  with_reducible rfl
                rotate_left
                · simp only [Act.put, List.setIfInBounds_toArray, List.set_cons_zero, List.set_cons_succ, i64_w, i32_w]
                  rfl
                refine pure_ (i := 6) (N := some 127) (v := ?_) (a' := ?_) #[true, true, true, false, true, true, true, false, false, false] rfl rfl (by kernel_rfl) (fun _ _ _ h => h) (Or.inl ⟨by rfl, ?_⟩) ?_ ?_
                rotate_left
                · intro w'
                  go_simp
                  with_reducible rfl
                rotate_left
                · simp only [Act.put, List.setIfInBounds_toArray, List.set_cons_zero, List.set_cons_succ, i64_w, i32_w]
                  rfl
                refine take_ (i := 3) (N := some 124) (v := .agg cs1.toArray) (a' := ?_) #[true, true, true, true, true, true, true, false, false, false] rfl rfl (by kernel_rfl) (fun _ _ _ h => h) (yieldsIf_load_mid (by rfl) 75 (.tmp 123) rfl g1 (j * 25) (by rfl) cs1 _ (fun w' h' => h'.1) Try.underlying75 rfl (HL1.out)) hHeld ?_ ?_
                rotate_left
                · simp only [Act.put, List.setIfInBounds_toArray, List.set_cons_zero, List.set_cons_succ, i64_w, i32_w]
                  rfl
                refine take_ (i := 7) (N := some 128) (v := .agg cs2.toArray) (a' := ?_) #[true, true, true, true, true, true, true, true, false, false] rfl rfl (by kernel_rfl) (fun _ _ _ h => h) (yieldsIf_load_mid (by rfl) 75 (.tmp 127) rfl g2 (j * 25) (by rfl) cs2 _ (fun w' h' => h'.2) Try.underlying75 rfl (HL2.out)) hHeld ?_ ?_
                rotate_left
                · simp only [Act.put, List.setIfInBounds_toArray, List.set_cons_zero, List.set_cons_succ, i64_w, i32_w]
                  rfl
                refine one_ (i := 8) (N := some 129) #[true, true, true, true, true, true, true, true, true, false] rfl rfl (by kernel_rfl) (by decide) (fun K hK => ?_)
                refine goes_ Try.func40 (by kernel_rfl) rfl #[.agg cs1.toArray, .agg cs2.toArray] (by rfl) rfl rfl (by simp only [List.map_toArray, List.map_cons, List.map_nil]; rfl) ?_
                with_reducible refine (HSM.out).mono ?_
                rintro e w9 ⟨rfl, hb9⟩
                refine ⟨_, rfl, ?_⟩
                refine hK.out _ _ ⟨(fun i u hu => cell_keep hb9 _ _ (hc1 i u hu)), (fun i u hu => cell_keep hb9 _ _ (hc2 i u hu))⟩ (fun hHeld => ?_)
                clear hK K
                refine norm_ (a' := ?_) ?_ ?_
                rotate_left
                · show Act.put _ (some 129) _ = _
                  simp only [Act.put, List.setIfInBounds_toArray, List.set_cons_zero, List.set_cons_succ, i64_w, i32_w]
                  rfl
                refine pure_ (i := 9) (N := some 130) (v := ?_) (a' := ?_) #[true, true, true, true, true, true, true, true, true, true] rfl rfl (by kernel_rfl) (fun _ _ _ h => h) (Or.inl ⟨by rfl, ?_⟩) ?_ ?_
                rotate_left
                · intro w'
                  go_simp
                  with_reducible rfl
                rotate_left
                · simp only [Act.put, List.setIfInBounds_toArray, List.set_cons_zero, List.set_cons_succ, i64_w, i32_w]
                  rfl
                refine done_ (by kernel_rfl) ?_
                have HZ9 := Aside0.mk (HZ.out.trans (((below_drew (Below.refl wr.heap.size wr)).trans (hb9.mono (show wr.heap.size ≤ wr.drew.heap.size from Nat.le_refl _))).mono HZ.out.size))
                clear hHeld hb9 hc1 hc2 HSM
                go_wp2_with fail
                go_roundg (ps.length - (j + 1))
                case measure => have := HJ.out; have := HJL.out; omega
                case rel => exact ⟨j + 1, by have := HJL.out; omega, by go_num, HZ9⟩
            · have hk1 : decide ((j : Int) < ps.length) = false := decide_eq_false (by omega)
              have hk2 : decide (j < ps.length) = false := decide_eq_false hlj
              have HT6 := Aside0.mk (HT5.out.below HZ.out)
              clear hlj HJ HZ HT5 HP1 HP2
              go_wp2_with fail
              go_roundg (l'.length - (k + 1))
              case measure => have := HK.out; have := HKL.out; omega
              case rel => exact ⟨k + 1, _, _, _, by have := HKL.out; omega, by go_num, HT6, HIP⟩
          --END
        · skip
          --BEG
          have hk1 : decide ((k : Int) < l'.length) = false := decide_eq_false (by omega)
          have hk2 : decide (k < l'.length) = false := decide_eq_false hlt
          clear hlt HK
          go_wp2_with fail
          refine (image_any H.out.w1 HI.out.inv.ok HI.out.pl).mono ?_
          rintro e w8 ⟨vF, vQ, rfl, hRF, hRQ, hb⟩
          have H8 := Aside0.mk (H.out.below hb)
          obtain ⟨AF, cF, hvF⟩ := Kd.R_slice hRF
          obtain ⟨AQ, cQ, hvQ⟩ := Kd.R_slice hRQ
          subst hvF hvQ
          have HC1 := Aside0.mk (And.intro (Kd.R_reads' hRF).2.2 (Kd.R_reads' hRQ).2.2)
          clear hRF hRQ hb H
          go_wp2_with fail
          refine (image_any H8.out.w2 HI.out.inv.ok HI.out.pl).mono ?_
          rintro e w9 ⟨vF, vQ, rfl, hRF, hRQ, hb⟩
          obtain ⟨AF2, cF2, hvF⟩ := Kd.R_slice hRF
          obtain ⟨AQ2, cQ2, hvQ⟩ := Kd.R_slice hRQ
          subst hvF hvQ
          have HSW := Aside0.mk (sameW_any s.last AF AF2 AQ AQ2 cF cF2 cQ cQ2 s.flights s.waits w9 (Kd.C_below HC1.out.1 hb) (Kd.R_reads' hRF).2.2 (Kd.C_below HC1.out.2 hb) (Kd.R_reads' hRQ).2.2 HI.out.inv.ok.fl HI.out.inv.ok.wl)
          have HB9 := Aside0.mk (H8.out.bel.trans (hb.mono H8.out.bel.size))
          clear hRF hRQ hb H8 HC1
          go_wp2_with fail
          refine HSW.out.mono ?_
          rintro e w10 ⟨rfl, hb⟩
          have HB10 := Aside0.mk (HB9.out.trans (hb.mono HB9.out.size))
          clear hb HSW HB9
          go_wp2_with fail
          go_ret
          exact ⟨rfl, HB10.out⟩
          --END
end Go.Proofs.Ytjccmlmkcjmicaa.Win

/- The walk of crierlaw12.WindowHolds. No condition. -/
import Derived.Test.YtjccmlmkcjmicaaWinHoldLaw
import Derived.Deep.DeepCutAuto
import Derived.Deep.CutRange
namespace Go.Proofs.Ytjccmlmkcjmicaa.Win
attribute [local go_sem] Go.Proofs.YtjccmlmkcjmicaaW.PrintMore.max2_int Go.Proofs.YtjccmlmkcjmicaaW.PrintMore.min2_int Go.Proofs.YtjccmlmkcjmicaaW.PrintMore.max_two Go.Proofs.YtjccmlmkcjmicaaW.PrintMore.min_two
open Go Go.RowKit Go.Maps Go.MapKept Go.ChangeMaps Go.Proofs.YtjccmlmkcjmicaaW.PrintWords Go.Proofs.Ytjccmlmkcjmicaa.Kinds Go.Proofs.Ytjccmlmkcjmicaa.PWindowHolds
set_option linter.unusedVariables false
set_option linter.unusedSimpArgs false

theorem zeroInt (w : World) : (zeroValue 3).run Try.prog w = .ok (.int .i64 0) w := by kernel_rfl
theorem owns_fr {P : Program} {k : TypeId} {R : Value → Option (DataW Unit × List MemPlace)} {b n : Nat} {D : DataW Unit} {ok : Nat → Prop} {w w1 : World} (h : w.ownsMap P k R b n D) (hf : Fr ok w w1) (hb : ¬ ok b) : w1.ownsMap P k R b n D := by
  obtain ⟨es, clock, hb', r⟩ := h
  exact ⟨es, clock, (hf.block b (Array.getElem?_eq_some_iff.1 hb').1 hb).trans hb', r⟩
theorem owns_lt {P : Program} {k : TypeId} {R : Value → Option (DataW Unit × List MemPlace)} {b n : Nat} {D : DataW Unit} {w : World} (h : w.ownsMap P k R b n D) : b < w.heap.size := by
  obtain ⟨es, clock, hb', r⟩ := h
  exact (Array.getElem?_eq_some_iff.1 hb').1
theorem owns_tight {P : Program} {k : TypeId} {R : Value → Option (DataW Unit × List MemPlace)} {b n : Nat} {D : DataW Unit} {w : World} (h : w.ownsMap P k R b n D) : w.ownsMap P k R b (Maps.size D) D := by
  obtain ⟨es, clock, hb, F, hs, rfl⟩ := h
  exact ⟨es, clock, hb, F, by simp [Maps.size, length_sorted], rfl⟩

/-- where the law's loop stands -/
structure HoldsAt (w wr : World) (B bR : Nat) (s : WS) (D : DataW Unit) (a b : Int) : Prop where
  win : WinAt' wr w.heap.size (away w.heap.size (fun k => k = bR)) B s
  inv : WInv s
  pl : WPl s
  wa : s.window = a
  qb : s.queue = b
  map : wr.ownsMap Try.prog 3 (plainElem Try.prog 3) bR (Maps.size D) D
  twin : Twin s.D D
  bel : Below w.heap.size w wr
  ge : w.heap.size ≤ bR
theorem HoldsAt.fill {w wr X : World} {B bR : Nat} {s s' : WS} {D : DataW Unit} {a b : Int} {v : Value} {ps : List Pkt} {okp : Nat → Prop} (h : HoldsAt w wr B bR s D a b) (hF : FillAt wr w.heap.size (away w.heap.size (fun k => k = bR)) B w v ps okp s' X)
    (hi : WInv s') (hp : WPl s') (hs : Same s s') (hD : s'.D = s.D) : HoldsAt w X B bR s' D a b := by
  refine ⟨hF.away' (fun k hk => hk ▸ owns_lt h.map) h.bel.size, hi, hp, hs.window.trans h.wa, hs.queue.trans h.qb, owns_fr h.map hF.fr (fun e => e.2 rfl), hD ▸ h.twin, hF.bel, h.ge⟩
theorem HoldsAt.below {w wr X : World} {B bR : Nat} {s : WS} {D : DataW Unit} {a b : Int} (h : HoldsAt w wr B bR s D a b) (hb : Below wr.heap.size wr X) : HoldsAt w X B bR s D a b :=
  ⟨h.win.below hb, h.inv, h.pl, h.wa, h.qb, owns_fr h.map (Fr.of_below (fun _ => False) hb) (fun e => e), h.twin, h.bel.trans (hb.mono h.bel.size), h.ge⟩
theorem HoldsAt.play {w wr X : World} {B bR : Nat} {s : WS} {D : DataW Unit} {a b : Int} {v : Value} {okp : Nat → Prop} {o : OpV} (h : HoldsAt w wr B bR s D a b) (hF : FillAt wr w.heap.size (away w.heap.size (fun k => k = bR)) B w v (playF s o).1 okp (playF s o).2 X) (hm : Short o.m) (h5 : o.kind ≠ 5) (h6 : o.kind ≠ 6) : HoldsAt w X B bR (playF s o).2 D a b :=
  h.fill hF (playF_inv h.inv o).1 (playF_pl h.pl o hm) (playF_inv h.inv o).2 (playF_D h.inv o h5 h6)

theorem _root_.Go.Proofs.Ytjccmlmkcjmicaa.Win.WinAt'.lower' {w : World} {base base' B : Nat} {ok : Nat → Prop} {s : WS} (h : WinAt' w base ok B s) (hb : base' ≤ base) : WinAt' w base' ok B s := by
  obtain ⟨vf, vw, bm, h⟩ := h
  exact ⟨vf, vw, bm, h.okB, h.okM, Nat.le_trans hb h.baseB, Nat.le_trans hb h.baseM, h.blk, Kd.R_lower h.flights hb, Kd.Q_lower h.waits hb, h.map⟩
theorem res_no {s : WS} (h : resB s = false) : resN s = 0 ∧ resS s = s := ⟨by unfold resN; rw [h]; rfl, by unfold resS; rw [h]; rfl⟩
theorem res_yes {s : WS} (h : resB s = true) : resN s = nextN s ∧ resS s = { s with last := nextN s, D := s.D.put (.int .i64 (nextN s)) (.agg []) } := ⟨by unfold resN; rw [if_pos h]; rfl, by unfold resS; rw [if_pos h]; rfl⟩
theorem quiet_left {P : Program} {f : FuncId} {args : Array Value} {w : World} {n : Nat} {v : Value}
    (h : Calls P f args (w.drewN n) fun e w' => e = .returned v ∧ w.drewN n = w') : Calls P f args (w.drewN n) fun e w'' => e = .returned v ∧ ∃ m, w'' = w.drewN m :=
  h.mono fun _ _ ⟨he, hm⟩ => ⟨he, n, hm.symm⟩
/-- the law's map is written behind a call of the window -/
theorem HoldsAt.turn {w wr X X2 : World} {B bR n2 : Nat} {s s' : WS} {D D2 : DataW Unit} {a b : Int} (h : HoldsAt w wr B bR s D a b) (hw : WinAt' X w.heap.size (away w.heap.size (fun k => k = bR)) B s') (hf : Fr (away w.heap.size (fun k => k = bR)) wr X)
    (hown : X2.ownsMap Try.prog 3 (plainElem Try.prog 3) bR n2 D2) (hturn : X.mapTurned X2 bR) (hi : WInv s') (hp : WPl s') (hs : Same s s') (ht : Twin s'.D D2) : HoldsAt w X2 B bR s' D2 a b := by
  have hF : Fr (fun k => k = bR) X X2 := (Fr.refl _ X).turned hturn (fun _ => rfl)
  have hb := hf.below h.bel (fun k hk => hk.1) h.bel.size
  exact ⟨hw.fr hF (fun k hk e => hk.2 e), hi, hp, hs.window.trans h.wa, hs.queue.trans h.qb, owns_tight hown, ht, hF.below hb (fun k hk => hk ▸ h.ge) hb.size, h.ge⟩
/-- a call of the window that keeps the law's map -/
theorem HoldsAt.kept {w wr X : World} {B bR : Nat} {s s' : WS} {D : DataW Unit} {a b : Int} (h : HoldsAt w wr B bR s D a b) (hw : WinAt' X w.heap.size (away w.heap.size (fun k => k = bR)) B s') (hf : Fr (away w.heap.size (fun k => k = bR)) wr X)
    (hi : WInv s') (hp : WPl s') (hs : Same s s') (hD : Twin s'.D D) : HoldsAt w X B bR s' D a b :=
  ⟨hw, hi, hp, hs.window.trans h.wa, hs.queue.trans h.qb, owns_fr h.map hf (fun e => e.2 rfl), hD, hf.below h.bel (fun k hk => hk.1) h.bel.size, h.ge⟩
theorem clamp_eq (lo hi n : Int) (h : lo ≤ hi) : (if hi < (if n < lo then lo else n) then hi else (if n < lo then lo else n)) = clampI lo hi n := by
  unfold clampI
  split <;> split <;> (try split) <;> omega

set_option maxRecDepth 100000 in
set_option maxHeartbeats 4000000 in
theorem holds_walk (n q : Int) (A : Option Addr) (c : Nat) (l : List S78) (w : World) (hr : Kd.C k78 w A l.length l) (hc : l.length ≤ c) (hl : l.length ≤ maxLen) (hg : ∀ x ∈ l, OpGood x) :
    Calls Try.prog 12 #[.int .i64 n, .int .i64 q, .slice A l.length c] w fun e w' => e = .returned (.bool true) ∧ Below w.heap.size w w' := by
  have HR := Aside0.mk hr
  have HG := Aside0.mk hg
  unfold maxLen at hl
  have hmm := @run_makeMap Try.prog
  clear hr hg
  go_enter Try.func12, Try.ntmps12
  go_wp2_with fail
  refine (known_any w).mono ?_
  rintro e w1 ⟨rfl, hb1⟩
  have HB1 := Aside0.mk hb1
  clear hb1
  go_wp2_with fail
  refine (few_any A c l w1 (Kd.C_below HR.out HB1.out) hc hl (fun x hx => (HG.out x hx).1)).mono ?_
  rintro e w2 ⟨r, rfl, hfew, hb2⟩
  have HB2 := Aside0.mk (HB1.out.trans (hb2.mono HB1.out.size))
  clear HB1 hb2
  cases r
  · clear hfew
    go_wp2
    go_ret
    exact ⟨rfl, HB2.out⟩
  obtain ⟨h300, hsh⟩ := hfew rfl
  have HSH := Aside0.mk hsh
  clear hfew hsh
  go_wp2_with fail
  refine (new_any n q w2).mono ?_
  rintro e w3 ⟨B, rfl, hw, hb⟩
  have HW := Aside0.mk hw
  have HB3 := Aside0.mk (HB2.out.trans (hb.mono HB2.out.size))
  have hz3 := hb.size
  clear hw hb
  go_upto_region 8 with fail
  go_cut [8, 9] (fun s8 s9 wx => s8 = .int .i64 (clampI 1 65535 n) ∧ s9 = .int .i64 (clampI 0 65536 q) ∧ wx = w3)
  case first =>
    --BEG
    as_aux_lemma =>
      go_wp2_with fail
      all_goals
        go_meet
        case rel => exact ⟨by congr 1; unfold clampI; split <;> (try split) <;> omega, by congr 1; unfold clampI; split <;> (try split) <;> omega, rfl⟩
    --END
  case rest =>
    obtain ⟨rfl, rfl, rfl⟩ := hcut
    obtain ⟨a, ha⟩ : ∃ a, clampI 1 65535 n = a := ⟨_, rfl⟩
    obtain ⟨b, hb⟩ : ∃ b, clampI 0 65536 q = b := ⟨_, rfl⟩
    rw [ha, hb]
    have hz2 := HB2.out.size
    have H0 := Aside0.mk (show HoldsAt w (wc.alloc (.map #[] 0)) B wc.heap.size (newS n q) (.map []) a b from
      ⟨((HW.out.below ((Below.refl _ _).alloc (Nat.le_refl _) _)).lower' hz2).mono (fun k hk => ⟨by omega, by omega⟩), newS_inv n q, newS_pl n q, ha, hb, World.ownsMap_made _ _ _ _, Twin.empty, HB3.out.alloc (by omega) _, by omega⟩)
    clear ha hb HW HB3 HB2
    go_wp2_with fail
    generalize wc.heap.size = bR at *
    generalize wc.alloc (.map #[] 0) = wd at *
    go_loopg [11] l.length (fun q' i wr => ∃ (k : Nat) (s : WS) (D : DataW Unit), k + q' = l.length ∧ i = .int .i64 (k : Int) ∧ Aside0 (HoldsAt w wr B bR s D a b))
    case atStart => exact ⟨0, _, _, by omega, rfl, H0⟩
    case round =>
      clear H0
      obtain ⟨k, s, D, hk, rfl, H⟩ := hrel
      have HK := Aside0.mk hk
      clear hk
      by_cases hlt : k < l.length
      · have hk1 : (k : Int) < l.length := by omega
        obtain ⟨ad, Ap, cp, hAd, hop⟩ := op_at (Kd.C_below HR.out H.out.bel) k hlt
        subst hAd
        have hmem : l.getD k z78 ∈ l := by rw [List.getD_eq_getElem?_getD, List.getElem?_eq_getElem hlt]; exact List.getElem_mem _
        have HGO := Aside0.mk (HG.out _ hmem)
        have HSO := Aside0.mk (HSH.out _ hmem)
        have HKL := Aside0.mk hlt
        obtain ⟨x, hx⟩ : ∃ x, l.getD k z78 = x := ⟨_, rfl⟩
        rw [hx] at hop HGO HSO
        have HX := Aside0.mk hx
        clear hx hmem hlt
        have o0 := hop.kind
        have HO := Aside0.mk hop
        clear hop
        obtain ⟨kind, sec, ⟨t, pp, qs, rt⟩, oa, on⟩ := x
        dsimp only [opOf] at o0
        go_upto_if 54 with fail
        go_cut [] from 43 to 221 (fun wx => ∃ (s' : WS) (D' : DataW Unit), Aside0 (HoldsAt w wx B bR s' D' a b))
        case first =>
          --BEG
          as_aux_lemma =>
            by_cases k5 : kind = 5
            · subst k5
              have hsz : Maps.size s.D ≤ 1000000 := by have := H.out.inv.sz; have := H.out.inv.ok.w1; omega
              have HRV := Aside0.mk (reserve_any H.out.win H.out.inv.ok hsz)
              clear o0
              have hw1 := H.out.inv.ok.w1
              have hw2 := H.out.inv.ok.w2
              rw [H.out.wa] at hw1 hw2
              cases hB : resB s
              · rw [hB, (res_no hB).1, (res_no hB).2] at HRV
                have hge : decide ((65535 - a : Int) ≤ (Maps.size D : Int)) = true := by
                  have h1 : ¬ ((Maps.size s.D : Int) < 65535 - s.window) := by unfold resB at hB; exact of_decide_eq_false hB
                  have h2 := H.out.twin.size
                  have h3 := H.out.wa
                  exact decide_eq_true (by omega)
                clear hB hsz
                go_wp2_with fail
                refine HRV.out.mono ?_
                rintro e w4 ⟨rfl, hw, hf⟩
                have H4 := Aside0.mk (H.out.kept hw hf H.out.inv H.out.pl ⟨rfl, rfl⟩ H.out.twin)
                have hlen := fun ty => H4.out.map.len Try.underlying90 ty
                clear hw hf HRV H
                generalize Maps.size D = sz at *
                go_wp2_with (at_lookup; refine wpList_lookup_own_ok_int _ rfl _ _ 90 rfl 3 3 .i64 keyedInt Try.underlying90 Try.underlying3 (zeroInt _) bR _ D rfl H4.out.map _ _ rfl (keyOf_int_mk Try.underlying3 (WalkArith.wf_i64 (by omega))) ?_; intro cv hat hwc; clear hat hwc)
                go_meet
                case rel => exact ⟨s, D, H4⟩
              · rw [hB, (res_yes hB).1, (res_yes hB).2] at HRV
                have hlt2 : ((Maps.size s.D : Int) < 65535 - s.window) := by unfold resB at hB; exact of_decide_eq_true hB
                have hge : decide ((65535 - a : Int) ≤ (Maps.size D : Int)) = false := by
                  have h2 := H.out.twin.size
                  have h3 := H.out.wa
                  exact decide_eq_false (by omega)
                have hfr := (nextN_free H.out.inv.toWInv0 (by have := H.out.inv.flw; omega)).1
                rw [← H.out.twin.has] at hfr
                obtain ⟨hr1, hr2⟩ := nextN_range H.out.inv.ok
                have hinv := (resS_inv H.out.inv)
                rw [(res_yes hB).2] at hinv
                have hpl := resS_pl H.out.pl
                rw [(res_yes hB).2] at hpl
                have htw := H.out.twin.put H.out.inv.tidy (nextN s) (.agg []) (.lit (.int .i64 1))
                have HI := Aside0.mk (And.intro hinv (And.intro hpl htw))
                have hszD : Maps.size D ≤ 65535 := by have := H.out.twin.size; have := H.out.wa; omega
                obtain ⟨r, hre⟩ : ∃ r, nextN s = r := ⟨_, rfl⟩
                rw [hre] at HRV hfr hr1 hr2 HI
                clear hB hsz hlt2 hinv hpl htw hre
                go_wp2_with fail
                refine HRV.out.mono ?_
                rintro e w4 ⟨rfl, hw, hf⟩
                have HM4 := Aside0.mk (owns_fr H.out.map hf (fun e => e.2 rfl))
                have hlen := fun ty => HM4.out.len Try.underlying90 ty
                have HW4 := Aside0.mk (And.intro hw hf)
                clear hw hf HRV
                obtain ⟨sz, hsz⟩ : ∃ sz, Maps.size D = sz := ⟨_, rfl⟩
                rw [hsz] at hlen hge HM4 hszD
                clear hsz
                go_wp2_with (first
                  | (at_lookup; refine wpList_lookup_own_ok_int _ rfl _ _ 90 rfl 3 3 .i64 keyedInt Try.underlying90 Try.underlying3 (zeroInt _) bR sz D rfl HM4.out _ _ rfl (keyOf_int_mk Try.underlying3 (WalkArith.wf_i64 (by omega))) ?_; intro cv hat hwc; clear hat hwc)
                  | (at_mapUpdate; refine wpList_mapUpdate_in _ rfl _ _ _ 90 rfl 3 3 keyedInt Try.underlying90 (plainElem (H := Unit) Try.prog 3) bR sz D rfl HM4.out ?hn _ _ _ rfl rfl (keyOf_int_mk Try.underlying3 (WalkArith.wf_i64 (by omega))) (.lit (.int .i64 1)) [] (plainElem_int Try.underlying3 (by decide)) ?_))
                case hn => unfold maxLen; omega
                intro w5 hown hturn
                have H5 := Aside0.mk (H.out.turn HW4.out.1 HW4.out.2 hown hturn HI.out.1.1 HI.out.2.1 HI.out.1.2 HI.out.2.2)
                clear hown hturn hlen
                go_wp2_with fail
                go_meet
                case rel => exact ⟨_, _, H5⟩
            · have j5 : (kind == 5) = false := by simpa using k5
              by_cases k6 : kind = 6
              · subst k6
                have o7 := HO.out.n
                dsimp only [opOf] at o7
                have hwf : (Lit.int .i64 on).wf = true := HGO.out.2.2.2
                have HF := Aside0.mk (free_any H.out.win on hwf)
                rw [← H.out.twin.has] at HF
                obtain ⟨hh, hhe⟩ : ∃ hh, Maps.has D (.int .i64 on) = hh := ⟨_, rfl⟩
                rw [hhe] at HF
                have HI := Aside0.mk (And.intro (free_inv H.out.inv on) (H.out.twin.del H.out.inv.tidy on))
                have HHE := Aside0.mk hhe
                have hbb : (hh != hh) = false := by simp
                clear hhe k5
                go_wp2_with (first
                  | (at_lookup; refine wpList_lookup_own_ok_int _ rfl _ _ 90 rfl 3 3 .i64 keyedInt Try.underlying90 Try.underlying3 (zeroInt _) bR _ D rfl H.out.map _ _ rfl (keyOf_int_mk Try.underlying3 hwf) ?_; intro cv hat hwc; clear hat hwc; rw [HHE.out]))
                refine HF.out.mono ?_
                rintro e w4 ⟨rfl, hw, hf⟩
                have HM4 := Aside0.mk (owns_fr H.out.map hf (fun e => e.2 rfl))
                have HW4 := Aside0.mk (And.intro hw hf)
                have hop4 : w4.cell? ⟨(ad.add (k * 8)).block, (ad.add (k * 8)).off + 7, none⟩ = some (.int .i64 on) := by
                  obtain ⟨ad', Ap', cp', he, h⟩ := op_at (Kd.C_below HR.out (hf.below H.out.bel (fun k hk => hk.1) H.out.bel.size)) k HKL.out
                  injection he with he
                  subst he
                  have := h.n
                  rw [HX.out] at this
                  exact this
                clear hw hf HF o7
                go_wp2_with (at_delete; refine wpList_delete_own _ rfl _ _ 90 3 rfl 3 keyedInt Try.underlying90 (plainElem (H := Unit) Try.prog 3) bR _ D rfl HM4.out _ _ rfl (keyOf_int_mk Try.underlying3 hwf) ?_)
                intro w5 hown hturn
                have H5 := Aside0.mk (H.out.turn HW4.out.1 HW4.out.2 hown hturn HI.out.1 ⟨H.out.pl.waits, H.out.pl.flights⟩ ⟨rfl, rfl⟩ HI.out.2)
                clear hown hturn hop4 hbb
                go_wp2_with fail
                go_meet
                case rel => exact ⟨_, _, H5⟩
              · have j6 : (kind == 6) = false := by simpa using k6
                have o1 := HO.out.second
                have o2 := HO.out.topic
                have o3 := HO.out.payload
                have o4 := HO.out.qos
                have o5 := HO.out.retain
                have o6 := HO.out.a
                have o7 := HO.out.n
                have hwf : (Lit.int .i64 on).wf = true := HGO.out.2.2.2
                have HP := Aside0.mk (play_any H.out.win H.out.inv H.out.pl (opOf ⟨kind, sec, ⟨t, pp, qs, rt⟩, oa, on⟩) Ap cp HO.out.read HSO.out hwf w H.out.bel H.out.bel.size (fun k hk => hk.1))
                have HK5 := Aside0.mk k5
                have HK6 := Aside0.mk k6
                dsimp only [opOf] at o1 o2 o3 o4 o5 o6 o7
                clear k5 k6 hwf
                go_wp2_with fail
                refine HP.out.mono ?_
                rintro e w4 ⟨v, okp, rfl, hF⟩
                have H4 := Aside0.mk (H.out.play hF HSO.out HK5.out HK6.out)
                clear hF HP o0 o1 o2 o3 o4 o5 o6 o7
                go_wp2_with fail
                go_meet
                case rel => exact ⟨_, _, H4⟩
          --END
        case rest =>
          clear H HO HX HGO HSO o0
          obtain ⟨s', D', H⟩ := hcut
          go_wp2_with fail
          refine (image_any H.out.win H.out.inv.ok H.out.pl).mono ?_
          rintro e w4 ⟨vF, vQ, rfl, hRF, hRQ, hb⟩
          obtain ⟨AF, cF, hvF⟩ := Kd.R_slice hRF
          obtain ⟨AQ, cQ, hvQ⟩ := Kd.R_slice hRQ
          subst hvF hvQ
          have H4 := Aside0.mk (H.out.below hb)
          have HRF := Aside0.mk hRF
          clear H hRF hRQ hb
          go_upto_region 27 with fail
          have HBX := Aside0.mk (alloc_new w4 (.cells #[.int .i64 s'.last, .slice AF s'.flights.length cF, .slice AQ s'.waits.length cQ] 85))
          have H5 := Aside0.mk (H4.out.below ((Below.refl _ _).alloc (Nat.le_refl _) (.cells #[.int .i64 s'.last, .slice AF s'.flights.length cF, .slice AQ s'.waits.length cQ] 85)))
          have HR5 := Aside0.mk (Kd.R_alloc HRF.out (.cells #[.int .i64 s'.last, .slice AF s'.flights.length cF, .slice AQ s'.waits.length cQ] 85))
          clear H4 HRF
          generalize w4.alloc (.cells #[.int .i64 s'.last, .slice AF s'.flights.length cF, .slice AQ s'.waits.length cQ] 85) = Y at *
          generalize w4.heap.size = Bx at *
          have c1 : Y.cell? ⟨Bx, 1, none⟩ = some (.slice AF s'.flights.length cF) := blk_cell HBX.out 1
          have c2 : Y.cell? ⟨Bx, 2, none⟩ = some (.slice AQ s'.waits.length cQ) := blk_cell HBX.out 2
          have hF := fun nn => Aside0.mk (flying_any (H5.out.below (pw_below_drewN (Below.refl _ _) nn)).win)
          have hQ := fun nn => Aside0.mk (waiting_any (H5.out.below (pw_below_drewN (Below.refl _ _) nn)).win)
          have hO := fun nn => Aside0.mk (online_any (H5.out.below (pw_below_drewN (Below.refl _ _) nn)).win)
          have i1 := H5.out.inv.flw
          have i2 := H5.out.inv.wq
          rw [H5.out.wa] at i1
          rw [H5.out.qb] at i2
          have i3 : s'.online = false ∨ s'.waits.length = 0 ∨ a ≤ (s'.flights.length : Int) := by
            cases ho : s'.online
            · exact .inl rfl
            · refine .inr ?_
              by_cases hw : s'.waits = []
              · exact .inl (by rw [hw]; rfl)
              · have := H5.out.inv.full ho hw
                have := H5.out.wa
                exact .inr (by omega)
          go_cut [181] from 43 to 221 (fun s181 wx => s181 = .bool false ∧ ∃ nn, wx = Y.drewN nn)
          case first =>
            --BEG
            as_aux_lemma =>
              generalize s'.flights.length = nf at *
              generalize s'.waits.length = nq at *
              generalize s'.online = onl at *
              have e1 : ((nf : Int) != nf) = false := by simp
              have e2 : ((nq : Int) != nq) = false := by simp
              have e3 : decide ((nf : Int) > a) = false := decide_eq_false (by omega)
              have e4 : decide (a < (nf : Int)) = false := decide_eq_false (by omega)
              have e5 : decide ((nq : Int) > b) = false := decide_eq_false (by omega)
              have e6 : decide (b < (nq : Int)) = false := decide_eq_false (by omega)
              clear H5 HR5 HBX
              cases onl
              · clear i1 i2 i3
                go_quiet ((first | (go_at_call 27; exact quiet_left (hF _).out) | (go_at_call 26; exact quiet_left (hQ _).out) | (go_at_call 37; exact quiet_left (hO _).out)))
                go_wp2_with fail
                go_meet
                case rel => exact ⟨rfl, _, rfl⟩
              · by_cases hq0 : nq = 0
                · have e7 : decide ((nq : Int) > 0) = false := decide_eq_false (by omega)
                  have e8 : decide (0 < nq) = false := decide_eq_false (by omega)
                  clear i1 i2 i3 hq0
                  go_quiet ((first | (go_at_call 27; exact quiet_left (hF _).out) | (go_at_call 26; exact quiet_left (hQ _).out) | (go_at_call 37; exact quiet_left (hO _).out)))
                  go_wp2_with fail
                  go_meet
                  case rel => exact ⟨rfl, _, rfl⟩
                · have e7 : decide ((nq : Int) > 0) = true := decide_eq_true (by omega)
                  have e8 : decide (0 < nq) = true := decide_eq_true (by omega)
                  have hna : a ≤ (nf : Int) := by
                    rcases i3 with h | h | h
                    · cases h
                    · omega
                    · exact h
                  have e9 : decide ((nf : Int) < a) = false := decide_eq_false (by omega)
                  clear i1 i2 i3 hq0 hna
                  go_quiet ((first | (go_at_call 27; exact quiet_left (hF _).out) | (go_at_call 26; exact quiet_left (hQ _).out) | (go_at_call 37; exact quiet_left (hO _).out)))
                  go_wp2_with fail
                  go_meet
                  case rel => exact ⟨rfl, _, rfl⟩
            --END
          case rest =>
            obtain ⟨rfl, nn, rfl⟩ := hcut
            clear hF hQ hO i1 i2 i3 c1 c2
            have hbY : Below Y.heap.size Y (Y.drewN nn) := pw_below_drewN (Below.refl _ _) nn
            have HBX6 := Aside0.mk ((hbY.block Bx (blk_lt HBX.out)).trans HBX.out)
            have H6 := Aside0.mk (H5.out.below hbY)
            have HR6 := Aside0.mk (Kd.R_below HR5.out hbY)
            clear H5 HR5 HBX hbY
            generalize Y.drewN nn = Z at *
            go_wp2_with fail
            have hZ : Below Z.heap.size Z (Z.alloc (.map #[] 0)) := (Below.refl _ _).alloc (Nat.le_refl _) _
            have HM7 := Aside0.mk (show (Z.alloc (.map #[] 0)).ownsMap Try.prog 3 (plainElem (H := Unit) Try.prog 3) Z.heap.size (Maps.size (seenD ((s'.flights.take 0).map (·.id)))) (seenD ((s'.flights.take 0).map (·.id))) from World.ownsMap_made _ _ _ _)
            have HZ := Aside0.mk hZ
            clear hZ
            generalize Z.alloc (.map #[] 0) = Z1 at *
            go_loopg [20] s'.flights.length (fun q' i wr => ∃ (j : Nat) (Sd : DataW Unit), j + q' = s'.flights.length ∧ i = .int .i64 (j : Int) ∧ Aside0 (Sd = seenD ((s'.flights.take j).map (·.id))) ∧ Aside0 (Below Z.heap.size Z wr) ∧ Aside0 (wr.ownsMap Try.prog 3 (plainElem (H := Unit) Try.prog 3) Z.heap.size (Maps.size Sd) Sd))
            case atStart => exact ⟨0, _, by omega, rfl, ⟨rfl⟩, HZ, HM7⟩
            case round =>
              clear HZ HM7
              obtain ⟨j, Sd, hj, rfl, HSd, HZ, HM⟩ := hrel
              have HJ := Aside0.mk hj
              clear hj
              have d1 : wr.cell? ⟨Bx, 1, none⟩ = some (.slice AF s'.flights.length cF) := blk_cell ((HZ.out.block Bx (blk_lt HBX6.out)).trans HBX6.out) 1
              by_cases hlj : j < s'.flights.length
              · obtain ⟨af, Aq, cq, hAF, f0, _⟩ := flt_at (Kd.R_reads' (Kd.R_below HR6.out HZ.out)).2.2 j hlj
                subst hAF
                obtain ⟨id, hid⟩ : ∃ id, (s'.flights.getD j noFlt).id = id := ⟨_, rfl⟩
                obtain ⟨g1, g2, g3, g4, g5⟩ := fresh_id H6.out.inv j hlj hid
                rw [← H6.out.twin.has] at g4
                rw [← HSd.out] at g3 g5
                rw [hid] at f0
                have hj1 : (j : Int) < s'.flights.length := by omega
                have hjb : (j : Int) < 65536 := by have := H6.out.inv.ok.fl; omega
                have g6 : decide (id < 1) = false := decide_eq_false (by omega)
                have g7 : decide (id > 65535) = false := decide_eq_false (by omega)
                have HG5 := Aside0.mk g5
                have HJL := Aside0.mk hlj
                have HM8 := Aside0.mk (owns_fr H6.out.map (Fr.of_below (fun _ => False) HZ.out) (fun e => e))
                have hsz : Maps.size Sd ≤ 65536 := by
                  rw [HSd.out]
                  have := size_seenD ((s'.flights.take j).map (·.id))
                  have h2 := H6.out.inv.ok.fl
                  simp only [List.length_map, List.length_take] at this
                  omega
                have HSZ := Aside0.mk hsz
                clear hid hlj g5 hsz
                go_wp2_with (first
                  | (at_lookup; refine wpList_lookup_own_ok_int _ rfl _ _ 90 rfl 3 3 .i64 keyedInt Try.underlying90 Try.underlying3 (zeroInt _) Z.heap.size _ _ rfl HM.out _ _ rfl (keyOf_int_mk Try.underlying3 (WalkArith.wf_i64 (by omega))) ?_; intro cv hat hwc; clear hat hwc; rw [g3])
                  | (at_lookup; refine wpList_lookup_own_ok_int _ rfl _ _ 90 rfl 3 3 .i64 keyedInt Try.underlying90 Try.underlying3 (zeroInt _) bR _ _ rfl HM8.out _ _ rfl (keyOf_int_mk Try.underlying3 (WalkArith.wf_i64 (by omega))) ?_; intro cv hat hwc; clear hat hwc; rw [g4])
                  | (at_mapUpdate; refine wpList_mapUpdate_in _ rfl _ _ _ 90 rfl 3 3 keyedInt Try.underlying90 (plainElem (H := Unit) Try.prog 3) Z.heap.size _ _ rfl HM.out ?hn _ _ _ rfl rfl (keyOf_int_mk Try.underlying3 (WalkArith.wf_i64 (by omega))) (.lit (.int .i64 1)) [] (plainElem_int Try.underlying3 (by decide)) ?_))
                case hn => have := HSZ.out; unfold maxLen; omega
                intro w9 hown hturn
                have HZ9 := Aside0.mk (show Below Z.heap.size Z w9 from ((Fr.refl (fun k => k = Z.heap.size) wr).turned hturn (fun _ => rfl)).below HZ.out (fun k hk => hk ▸ Nat.le_refl _) HZ.out.size)
                have HM9 := Aside0.mk (owns_tight hown)
                clear hown hturn HM HZ HM8 d1 f0
                go_wp2_with fail
                go_roundg (s'.flights.length - (j + 1))
                case measure => have := HJ.out; have := HJL.out; omega
                case rel =>
                  exact ⟨j + 1, _, by have := HJL.out; omega, by go_num, ⟨HG5.out.symm⟩, HZ9, HM9⟩
              · have hj1 : decide ((j : Int) < s'.flights.length) = false := decide_eq_false (by omega)
                have hj2 : decide (j < s'.flights.length) = false := decide_eq_false hlj
                have H7 := Aside0.mk (H6.out.below HZ.out)
                clear hlj HM HZ H6 HR6 HBX6 HJ HSd
                go_wp2_with fail
                go_roundg (l.length - (k + 1))
                case measure => have := HK.out; have := HKL.out; omega
                case rel => exact ⟨k + 1, _, _, by have := HKL.out; omega, by go_num, H7⟩
      · have hk1 : decide ((k : Int) < l.length) = false := decide_eq_false (by omega)
        have hk2 : decide (k < l.length) = false := decide_eq_false hlt
        have HB9 := Aside0.mk H.out.bel
        clear hlt H HK
        go_wp2_with fail
        go_ret
        exact ⟨rfl, HB9.out⟩
end Go.Proofs.Ytjccmlmkcjmicaa.Win

/- The walk of crierlaw12.WindowOnce. No condition. -/
import Derived.Test.YtjccmlmkcjmicaaWinOnceMem
import Derived.Test.YtjccmlmkcjmicaaPWindowOncex1
import Derived.Deep.DeepCutAuto
import Derived.Deep.CutRange
namespace Go.Proofs.Ytjccmlmkcjmicaa.Win
open Go Go.RowKit Go.Maps Go.MapKept Go.ChangeMaps Go.Proofs.YtjccmlmkcjmicaaW.PrintWords Go.Proofs.YtjccmlmkcjmicaaW.PrintLast Go.Proofs.Ytjccmlmkcjmicaa.Kinds Go.Proofs.Ytjccmlmkcjmicaa.PWindowHolds
set_option linter.unusedVariables false
set_option linter.unusedSimpArgs false

/-- what is kept behind every call -/
structure OnceI (s : WS) (taken sent : List Msg) : Prop where
  inv : WInv s
  pl : WPl s
  o : OInv s taken sent
theorem OnceI.len {s : WS} {taken sent : List Msg} (h : OnceI s taken sent) : sent.length ≤ taken.length := by
  have := congrArg List.length h.o.eq
  rw [List.length_append] at this
  omega
theorem send_cases (s : WS) (m : Msg) : ((sendF s m).took = true ∧ (sendF s m).err = 0) ∨ ((sendF s m).took = false ∧ (sendF s m).err = 0) ∨ ((sendF s m).took = false ∧ (sendF s m).err = 122 ∧ (m.qos == 1) = false ∧ (m.qos == 2) = false) := by
  unfold sendF
  cases hb : sendB m
  · rw [if_pos rfl]
    unfold sendB at hb
    simp only [Bool.or_eq_false_iff] at hb
    exact .inr (.inr ⟨rfl, rfl, hb.1, hb.2⟩)
  · rw [if_neg (by simp)]
    split
    · exact .inl ⟨rfl, rfl⟩
    · split
      · exact .inl ⟨rfl, rfl⟩
      · exact .inr (.inl ⟨rfl, rfl⟩)
theorem OnceI.send {s : WS} {taken sent : List Msg} (h : OnceI s taken sent) (m : Msg) (hm : Short m) : OnceI (sendF s m).s (taken ++ if (sendF s m).took then [m] else []) (sent ++ heard (sendF s m).ps) :=
  ⟨(sendF_inv h.inv m).1, sendF_pl h.pl m hm, sendF_oinv h.inv h.o m⟩
theorem OnceI.play {s : WS} {taken sent : List Msg} (h : OnceI s taken sent) (o : OpV) (hm : Short o.m) (h1 : o.kind ≠ 1) : OnceI (playF s o).2 taken (sent ++ heard (playF s o).1) :=
  ⟨(playF_inv h.inv o).1, playF_pl h.pl o hm, playF_oinv h.o o h1⟩
theorem OnceI.up {s : WS} {taken sent : List Msg} (h : OnceI s taken sent) : OnceI (upF s).2 taken (sent ++ heard (upF s).1) := ⟨(upF_inv h.inv).1, upF_pl h.pl, upF_oinv h.o⟩
theorem OnceI.ack {s : WS} {taken sent : List Msg} (h : OnceI s taken sent) (kind id : Int) : OnceI (ackF s kind id).2 taken (sent ++ heard (ackF s kind id).1) := ⟨(ackF_inv h.inv kind id).1, ackF_pl h.pl kind id, ackF_oinv h.o kind id⟩

set_option maxRecDepth 100000 in
set_option maxHeartbeats 4000000 in
theorem once_walk (n q : Int) (A : Option Addr) (c : Nat) (l : List S78) (w : World) (hr : Kd.C k78 w A l.length l) (hc : l.length ≤ c) (hl : l.length ≤ maxLen) (hg : ∀ x ∈ l, OpGood x) :
    Calls Try.prog 11 #[.int .i64 n, .int .i64 q, .slice A l.length c] w fun e w' => e = .returned (.bool true) ∧ Below w.heap.size w w' := by
  have HR := Aside0.mk hr
  have HG := Aside0.mk hg
  unfold maxLen at hl
  clear hr hg
  go_enter Try.func11, Try.ntmps11
  go_wp2_with fail
  refine (known_any w).mono ?_
  rintro e w1 ⟨rfl, hb1⟩
  have HB1 := Aside0.mk hb1
  clear hb1
  go_wp2_with fail
  refine (few_any A c l w1 (Kd.C_below HR.out HB1.out) hc hl (fun x hx => (HG.out x hx).1)).mono ?_
  rintro e w2 ⟨r, rfl, hfew, hb2⟩
  have HB2 := Aside0.mk (HB1.out.trans (hb2.mono HB1.out.size))
  clear HB1 hb2
  cases r
  · clear hfew
    go_wp2
    go_ret
    exact ⟨rfl, HB2.out⟩
  obtain ⟨h300, hsh⟩ := hfew rfl
  have HSH := Aside0.mk hsh
  clear hfew hsh
  go_wp2_with fail
  refine (new_any n q w2).mono ?_
  rintro e w3 ⟨B, rfl, hw, hb⟩
  have hz2 := HB2.out.size
  have hz3 := hb.size
  have H0 := Aside0.mk (show OnceM w (w3.alloc (.cells #[.slice none 0 0] 71)) B w3.heap.size (newS n q) [] [] (.slice none 0 0) (.slice none 0 0) (fun k => w2.heap.size ≤ k ∧ k < w3.heap.size) (fun _ => False) (fun _ => False) from
    ⟨((hw.below ((Below.refl _ _).alloc (Nat.le_refl _) _)).lower2 hz2), fun k hk => ⟨by omega, by rw [World.size_alloc]; omega⟩, fun k hk => hk.elim, fun k hk => hk.elim, ⟨by omega, by omega, fun h => h, fun h => h⟩, alloc_new _ _, Kd.R_nil _ _ _ _ _, Kd.R_nil _ _ _ _ _, (HB2.out.trans (hb.mono hz2)).alloc (by omega) _⟩)
  have HI0 := Aside0.mk (show OnceI (newS n q) [] [] from ⟨newS_inv n q, newS_pl n q, newS_oinv n q⟩)
  clear hw hb HB2
  go_wp2_with fail
  generalize w3.heap.size = Bs at *
  generalize w3.alloc (.cells #[.slice none 0 0] 71) = wd at *
  go_loopg [8, 11] l.length (fun q' vt i wr => ∃ (k : Nat) (s : WS) (taken sent : List Msg) (vs : Value) (okw avs avt : Nat → Prop), k + q' = l.length ∧ i = .int .i64 (k : Int) ∧ Aside0 (OnceM w wr B Bs s taken sent vt vs okw avs avt) ∧ Aside0 (OnceI s taken sent) ∧ taken.length ≤ k)
  case atStart => exact ⟨0, _, _, _, _, _, _, _, by omega, rfl, H0, HI0, by simp⟩
  case round =>
    clear H0 HI0
    obtain ⟨k, s, taken, sent, vs, okw, avs, avt, hk, rfl, H, HI, htl⟩ := hrel
    have HK := Aside0.mk hk
    clear hk
    by_cases hlt : k < l.length
    · skip
      --BEG
      as_aux_lemma =>
        have hk1 : (k : Int) < l.length := by omega
        obtain ⟨ad, Ap, cp, hAd, hop⟩ := op_at (Kd.C_below HR.out H.out.bel) k hlt
        obtain ⟨ad0, Ap0, cp0, hAd0, hop0⟩ := op_at HR.out k hlt
        subst hAd
        injection hAd0 with hAd0
        subst hAd0
        have hmem : l.getD k z78 ∈ l := by rw [List.getD_eq_getElem?_getD, List.getElem?_eq_getElem hlt]; exact List.getElem_mem _
        have HGO := Aside0.mk (HG.out _ hmem)
        have HSO := Aside0.mk (HSH.out _ hmem)
        have HKL := Aside0.mk hlt
        obtain ⟨x, hx⟩ : ∃ x, l.getD k z78 = x := ⟨_, rfl⟩
        rw [hx] at hop hop0 HGO HSO
        clear hx hmem hlt
        have hAp : Ap = Ap0 ∧ cp = cp0 := by
          have h1 := hop0.payload
          have hb : (ad.add (k * 8)).block < w.heap.size := by
            have := hop0.kind
            unfold World.cell? at this
            refine Classical.byContradiction (fun hn => ?_)
            rw [Array.getElem?_eq_none (by omega)] at this
            cases this
          have h2 := (H.out.bel.cell (p := ⟨(ad.add (k * 8)).block, (ad.add (k * 8)).off + 3, none⟩) hb).symm.trans hop.payload
          rw [h1] at h2
          injection h2 with h2
          injection h2 with e1 e2 e3
          exact ⟨e1.symm, e3.symm⟩
        obtain ⟨rfl, rfl⟩ := hAp
        have HCP := Aside0.mk (And.intro hop0.cap hop0.read)
        clear hop0
        obtain ⟨kind, sec, ⟨t, pp, qs, rt⟩, oa, on⟩ := x
        have o0 := hop.kind
        have o1 := hop.second
        have o2 := hop.topic
        have o3 := hop.payload
        have o4 := hop.qos
        have o5 := hop.retain
        have o6 := hop.a
        have o7 := hop.n
        dsimp only [opOf] at o0 o1 o2 o3 o4 o5 o6 o7
        have HPD := Aside0.mk hop.read
        clear hop
        go_upto_region 14 with fail
        have HBO := Aside0.mk (alloc_new wr (.cells #[.int .i64 kind, .bool sec, .string t, .slice Ap pp.length cp, .int .i64 qs, .bool rt, .int .i64 oa, .int .i64 on] 78))
        have H1 := Aside0.mk (H.out.below ((Below.refl _ _).alloc (Nat.le_refl _) (.cells #[.int .i64 kind, .bool sec, .string t, .slice Ap pp.length cp, .int .i64 qs, .bool rt, .int .i64 oa, .int .i64 on] 78)))
        have HP1 := Aside0.mk (Kd.C_alloc HPD.out (.cells #[.int .i64 kind, .bool sec, .string t, .slice Ap pp.length cp, .int .i64 qs, .bool rt, .int .i64 oa, .int .i64 on] 78))
        have HNB := Aside0.mk (show ¬ okw wr.heap.size from fun e => by have := (H.out.wlt _ e).2; omega)
        clear H HPD o0 o1 o2 o3 o4 o5 o6 o7
        generalize wr.alloc (.cells #[.int .i64 kind, .bool sec, .string t, .slice Ap pp.length cp, .int .i64 qs, .bool rt, .int .i64 oa, .int .i64 on] 78) = Y at *
        generalize wr.heap.size = Bo at *
        have c0 : Y.cell? ⟨Bo, 0, none⟩ = some (.int .i64 kind) := blk_cell HBO.out 0
        have c1 : Y.cell? ⟨Bo, 1, none⟩ = some (.bool sec) := blk_cell HBO.out 1
        have c2 : Y.cell? ⟨Bo, 2, none⟩ = some (.string t) := blk_cell HBO.out 2
        have c3 : Y.cell? ⟨Bo, 3, none⟩ = some (.slice Ap pp.length cp) := blk_cell HBO.out 3
        have c4 : Y.cell? ⟨Bo, 4, none⟩ = some (.int .i64 qs) := blk_cell HBO.out 4
        have c5 : Y.cell? ⟨Bo, 5, none⟩ = some (.bool rt) := blk_cell HBO.out 5
        have c6 : Y.cell? ⟨Bo, 6, none⟩ = some (.int .i64 oa) := blk_cell HBO.out 6
        have c7 : Y.cell? ⟨Bo, 7, none⟩ = some (.int .i64 on) := blk_cell HBO.out 7
        have hkb : (k : Int) ≤ 300 := by have := HKL.out; omega
        by_cases k1 : kind = 1
        · subst k1
          have hSend := Aside0.mk (send_any H1.out.win HI.out.inv.ok ⟨t, pp, qs, rt⟩ Ap cp w H1.out.bel H1.out.bel.size HP1.out HSO.out)
          go_wp2_with fail
          refine hSend.out.mono ?_
          rintro e w4 ⟨v, okp, rfl, hF⟩
          have HC := Aside0.mk (H1.out.call hF)
          have HBO4 := Aside0.mk ((hF.fr.block Bo (blk_lt HBO.out) HNB.out).trans HBO.out)
          have HI4 := Aside0.mk (HI.out.send ⟨t, pp, qs, rt⟩ HSO.out)
          have hlen := sendF_len s ⟨t, pp, qs, rt⟩
          have hlen2 := HI.out.len
          have hcs := send_cases s ⟨t, pp, qs, rt⟩
          clear hF hSend H1 c0 c1 c2 c3 c4 c5 c6 c7 HBO HP1
          have d2 : w4.cell? ⟨Bo, 2, none⟩ = some (.string t) := blk_cell HBO4.out 2
          have d3 : w4.cell? ⟨Bo, 3, none⟩ = some (.slice Ap pp.length cp) := blk_cell HBO4.out 3
          have d4 : w4.cell? ⟨Bo, 4, none⟩ = some (.int .i64 qs) := blk_cell HBO4.out 4
          have d5 : w4.cell? ⟨Bo, 5, none⟩ = some (.bool rt) := blk_cell HBO4.out 5
          generalize sendF s ⟨t, pp, qs, rt⟩ = R at *
          obtain ⟨ps, took, err, s4⟩ := R
          dsimp only at *
          have HHL := Aside0.mk (show sent.length + ps.length ≤ 1099511627776 by omega)
          clear hlen hlen2
          rcases hcs with ⟨rfl, rfl⟩ | ⟨rfl, rfl⟩ | ⟨rfl, rfl, q1, q2⟩
          · obtain ⟨At, ct, hvt⟩ := Kd.R_slice HC.out.mem.taken
            subst hvt
            have HTL := Aside0.mk htl
            clear htl
            go_wp2_with (first
              | (go_at_call 25; refine (num_any _ _).mono ?_; rintro e w7 ⟨rfl, rfl⟩)
              | (at_builtin; refine Kd.R_append (kTk w) (w0 := w) w.heap.size rfl (.tmp 81) (.tmp 84) 71 64 (.agg #[.string ⟨#[]⟩, .slice none 0 0, .int .i64 0, .bool false]) 56 rfl Try.underlying71 infoMsg rfl (Nat.succ_pos 3) (by omega) (.slice At taken.length ct) taken ⟨t, pp, qs, rt⟩ [.string t, .slice Ap pp.length cp, .int .i64 qs, .bool rt] (fun k => avt k ∨ w4.heap.size ≤ k) (fun _ => False) rfl rfl ?hp ?hokp ?hfresh ?HO ?HB ?hbase ?hl ?_))
            case hp => exact tk_M_mk HCP.out.1 HCP.out.2
            case hokp => exact fun k hk => hk.elim
            case hfresh => exact fun k hk => .inr hk
            case HO => exact Kd.R_mono HC.out.mem.taken (fun k hk => .inl hk)
            case HB => exact HC.out.mem.bel
            case hbase => exact HC.out.mem.bel.size
            case hl => have := HTL.out; omega
            intro vt1 w5 hq hb5 hg5 hat5
            have HC5 := Aside0.mk (HC.out.take hq hg5 hb5)
            clear hq hb5 hg5 hat5 HC d2 d3 d4 d5 HBO4
            have HH := Aside0.mk (HC5.out.hears HHL.out)
            clear HC5
            go_wp2_with fail
            refine HH.out.mono ?_
            rintro e w6 ⟨rfl, vs1, avs1, hM⟩
            have HM := Aside0.mk hM
            clear hM HH
            go_wp2_with fail
            go_roundg (l.length - (k + 1))
            case measure => have := HK.out; have := HKL.out; omega
            case rel =>
              have h := HI4.out
              simp only [if_true] at h
              exact ⟨k + 1, _, _, _, _, _, _, _, by have := HKL.out; omega, by go_num, HM, ⟨h⟩, by have := HTL.out; simp only [List.length_append, List.length_singleton]; omega⟩
          · clear d2 d3 d4 d5 HBO4
            have HH := Aside0.mk (HC.out.hears HHL.out)
            clear HC
            go_wp2_with (first | (go_at_call 25; refine (num_any _ _).mono ?_; rintro e w7 ⟨rfl, rfl⟩))
            refine HH.out.mono ?_
            rintro e w5 ⟨rfl, vs1, avs1, hM⟩
            have HM := Aside0.mk hM
            clear hM HH
            go_wp2_with fail
            go_roundg (l.length - (k + 1))
            case measure => have := HK.out; have := HKL.out; omega
            case rel =>
              have h := HI4.out
              simp only [Bool.false_eq_true, if_false, List.append_nil] at h
              exact ⟨k + 1, _, _, _, _, _, _, _, by have := HKL.out; omega, by go_num, HM, ⟨h⟩, by omega⟩
          · have HH := Aside0.mk (HC.out.hears HHL.out)
            clear HC d2 d3 d5 HBO4
            go_wp2_with (first | (go_at_call 25; refine (num_any _ _).mono ?_; rintro e w7 ⟨rfl, rfl⟩))
            refine HH.out.mono ?_
            rintro e w5 ⟨rfl, vs1, avs1, hM⟩
            have HM := Aside0.mk hM
            clear hM HH d4 q1 q2
            go_wp2_with fail
            go_roundg (l.length - (k + 1))
            case measure => have := HK.out; have := HKL.out; omega
            case rel =>
              have h := HI4.out
              simp only [Bool.false_eq_true, if_false, List.append_nil] at h
              exact ⟨k + 1, _, _, _, _, _, _, _, by have := HKL.out; omega, by go_num, HM, ⟨h⟩, by omega⟩
        · have j1 : (kind != 1) = true := by simpa using k1
          have HK1 := Aside0.mk k1
          have HP := Aside0.mk (play_any H1.out.win HI.out.inv HI.out.pl (opOf ⟨kind, sec, ⟨t, pp, qs, rt⟩, oa, on⟩) Ap cp HP1.out HSO.out HGO.out.2.2.2 w H1.out.bel H1.out.bel.size (fun k hk => (H1.out.wlt k hk).1))
          clear k1
          go_wp2_with fail
          refine HP.out.mono ?_
          rintro e w4 ⟨v, okp, rfl, hF⟩
          have HC := Aside0.mk (H1.out.call hF)
          have HI4 := Aside0.mk (HI.out.play (opOf ⟨kind, sec, ⟨t, pp, qs, rt⟩, oa, on⟩) HSO.out HK1.out)
          have hlen := playF_len HI.out.inv.ok (opOf ⟨kind, sec, ⟨t, pp, qs, rt⟩, oa, on⟩)
          have hlen2 := HI.out.len
          have HH := Aside0.mk (HC.out.hears (by omega))
          clear hF HP H1 HC hlen hlen2 c0 c1 c2 c3 c4 c5 c6 c7 HBO
          go_wp2_with fail
          refine HH.out.mono ?_
          rintro e w5 ⟨rfl, vs1, avs1, hM⟩
          have HM := Aside0.mk hM
          clear hM HH j1
          go_wp2_with fail
          go_roundg (l.length - (k + 1))
          case measure => have := HK.out; have := HKL.out; omega
          case rel => exact ⟨k + 1, _, _, _, _, _, _, _, by have := HKL.out; omega, by go_num, HM, HI4, by omega⟩
      --END
    · have hk1 : decide ((k : Int) < l.length) = false := decide_eq_false (by omega)
      have hk2 : decide (k < l.length) = false := decide_eq_false hlt
      have htl3 : taken.length ≤ 300 := by have := HK.out; omega
      have HU := Aside0.mk (up_any H.out.win HI.out.inv.ok HI.out.pl w H.out.bel H.out.bel.size)
      clear hlt htl HK
      go_wp2_with fail
      refine HU.out.mono ?_
      rintro e w4 ⟨v, okp, rfl, hF⟩
      have HC := Aside0.mk (H.out.call hF)
      have HI4 := Aside0.mk (HI.out.up)
      have hlen := upF_len HI.out.inv.ok
      have hlen2 := HI.out.len
      have HH := Aside0.mk (HC.out.hears (by omega))
      have HON := Aside0.mk (upF_online s)
      clear hF HU H HC hlen hlen2 HI hk1 hk2
      go_wp2_with fail
      refine HH.out.mono ?_
      rintro e w5 ⟨rfl, vs1, avs1, hM⟩
      obtain ⟨At, ct, hvt⟩ := Kd.R_slice hM.taken
      subst hvt
      have HM := Aside0.mk hM
      clear hM HH
      go_wp2_with fail
      go_loopg [16] (need (upF s).2) (fun q' i wr => ∃ (r : Nat) (s1 : WS) (sent1 : List Msg) (vs1 : Value) (okw1 avs1 : Nat → Prop), Aside0 (r + need s1 ≤ 2 * taken.length) ∧ Aside0 (q' = need s1) ∧ i = .int .i64 (r : Int) ∧ Aside0 (OnceM w wr B Bs s1 taken sent1 (.slice At taken.length ct) vs1 okw1 avs1 avt) ∧ Aside0 (OnceI s1 taken sent1) ∧ Aside0 (s1.online = true))
      case atStart => exact ⟨0, _, _, _, _, _, ⟨by have := need_le HI4.out.o; omega⟩, ⟨rfl⟩, rfl, HM, HI4, HON⟩
      case round =>
        clear HM HI4 HON
        obtain ⟨r, s1, sent1, vs1, okw1, avs1, HR1, HQ, rfl, HM, HI, HO⟩ := hrel
        by_cases hf : s1.flights = []
        · skip
          --BEG
          as_aux_lemma =>
            have hfl : s1.flights.length = 0 := by rw [hf]; rfl
            obtain ⟨hw0, hse⟩ := all_sent HI.out.inv HI.out.o HO.out hf
            have hwl : s1.waits.length = 0 := by rw [hw0]; rfl
            subst hse
            obtain ⟨As, cs, hvs⟩ := Kd.R_slice HM.out.sent
            subst hvs
            have hbx : wr.cell? ⟨Bs, 0, none⟩ = some (.slice As sent1.length cs) := blk_cell HM.out.box 0
            have hll : ((sent1.length : Int) != sent1.length) = false := by simp
            clear hf hw0
            go_wp2_with fail
            refine (flying_any HM.out.win).mono ?_
            rintro e w6 ⟨rfl, rfl⟩
            rw [hfl]
            go_wp2_with fail
            refine (waiting_any HM.out.win).mono ?_
            rintro e w6 ⟨rfl, rfl⟩
            rw [hwl]
            clear hfl hwl
            go_wp2_with fail
            clear hbx
            obtain ⟨wo, hwo⟩ : ∃ wo, wr = wo := ⟨_, rfl⟩
            subst hwo
            go_loopg [19] sent1.length (fun q' i wz => ∃ j : Nat, j + q' = sent1.length ∧ i = .int .i64 (j : Int) ∧ Aside0 (OnceM w wz B Bs s1 sent1 sent1 (.slice At sent1.length ct) (.slice As sent1.length cs) okw1 avs1 avt))
            case atStart => exact ⟨0, by omega, rfl, HM⟩
            case round =>
              clear HM hll
              obtain ⟨j, hj, rfl, HM⟩ := hrel
              have HJ := Aside0.mk hj
              have bx : wr.cell? ⟨Bs, 0, none⟩ = some (.slice As sent1.length cs) := blk_cell HM.out.box 0
              have hlen := HI.out.len
              clear hj
              by_cases hlj : j < sent1.length
              · have hj1 : (j : Int) < sent1.length := by omega
                have hj0 : (0 : Int) ≤ (j : Int) := by omega
                obtain ⟨gs, cs', hes, hgs, hlS0, _⟩ := Kd.R_form HM.out.sent (by omega)
                obtain ⟨gt, ct', het, hgt, hlT0, _⟩ := Kd.R_form HM.out.taken (by omega)
                injection hes with e1 e2 e3
                injection het with e4 e5 e6
                subst e1 e3 e4 e6
                obtain ⟨us, hul, hMs, hcs, _⟩ := Kd.R_elem HM.out.sent noMsg (j : Int) (by omega) (by omega)
                obtain ⟨ut, hvl, hMt, hct, _⟩ := Kd.R_elem HM.out.taken noMsg (j : Int) (by omega) (by omega)
                simp only [Int.toNat_natCast] at hMs hcs hMt hct
                obtain ⟨m, hm⟩ : ∃ m, sent1.getD j noMsg = m := ⟨_, rfl⟩
                rw [hm] at hMs hMt
                obtain ⟨v3, rfl, hR3⟩ := msg_M hMs
                obtain ⟨A1, c1, hv3⟩ := Kd.R_slice hR3
                subst hv3
                obtain ⟨A2, c2, rfl, hl2, hC2⟩ := tk_K ((kTk w).K_of_M hMt)
                obtain ⟨t, pp, qq, rt⟩ := m
                dsimp only at *
                have x0 : wr.cell? ⟨gs, j * 4, none⟩ = some (.string t) := hcs 0 _ rfl
                have x1 : wr.cell? ⟨gs, j * 4 + 1, none⟩ = some (.slice A1 pp.length c1) := hcs 1 _ rfl
                have x2 : wr.cell? ⟨gs, j * 4 + 2, none⟩ = some (.int .i64 qq) := hcs 2 _ rfl
                have x3 : wr.cell? ⟨gs, j * 4 + 3, none⟩ = some (.bool rt) := hcs 3 _ rfl
                have y0 : wr.cell? ⟨gt, j * 4, none⟩ = some (.string t) := hct 0 _ rfl
                have y1 : wr.cell? ⟨gt, j * 4 + 1, none⟩ = some (.slice A2 pp.length c2) := hct 1 _ rfl
                have y2 : wr.cell? ⟨gt, j * 4 + 2, none⟩ = some (.int .i64 qq) := hct 2 _ rfl
                have y3 : wr.cell? ⟨gt, j * 4 + 3, none⟩ = some (.bool rt) := hct 3 _ rfl
                have hr1 := Kd.R_reads' hR3
                have HSM := Aside0.mk (Go.Proofs.Ytjccmlmkcjmicaa.PWindowOnce.crierlaw12_sameMessage.calls t A1 c1 pp qq rt t A2 c2 pp qq rt true wr.drew (Kd.C_drew hr1.2.2) hr1.2.1 (Kd.C_drew (Kd.C_below hC2 HM.out.bel)) hl2 (by unfold Go.Proofs.Ytjccmlmkcjmicaa.PWindowOnce.crierlaw12_sameMessage.f; simp))
                have hlB : Bs < wr.drew.heap.size := blk_lt HM.out.box
                have hlS : gs < wr.drew.heap.size := hlS0
                have hlT : gt < wr.drew.heap.size := hlT0
                have HJL := Aside0.mk hlj
                clear hMs hMt hcs hct hm hR3 hC2 hr1 hlj hul hvl hl2
                have hjb : (j : Int) ≤ 300 := by omega
                go_wp2_with fail
                refine start_ (n := 10) (S := fun w' => w'.cell? ⟨Bs, 0, none⟩ = some (.slice (some ⟨gs, 0, none⟩) sent1.length cs) ∧ w'.cell? ⟨gs, j * 4, none⟩ = some (.string t) ∧ w'.cell? ⟨gs, j * 4 + 1, none⟩ = some (.slice A1 pp.length c1) ∧ w'.cell? ⟨gs, j * 4 + 2, none⟩ = some (.int .i64 qq) ∧ w'.cell? ⟨gs, j * 4 + 3, none⟩ = some (.bool rt) ∧ w'.cell? ⟨gt, j * 4, none⟩ = some (.string t) ∧ w'.cell? ⟨gt, j * 4 + 1, none⟩ = some (.slice A2 pp.length c2) ∧ w'.cell? ⟨gt, j * 4 + 2, none⟩ = some (.int .i64 qq) ∧ w'.cell? ⟨gt, j * 4 + 3, none⟩ = some (.bool rt)) (ds := []) #[false, false, false, false, false, false, false, false, false, false] (by kernel_rfl) rfl rfl ⟨bx, x0, x1, x2, x3, y0, y1, y2, y3⟩ (fun hHeld => ?_)
                refine pure_ (i := 1) (N := some 169) (v := ?_) (a' := ?_) #[false, true, false, false, false, false, false, false, false, false] rfl rfl (by kernel_rfl) (fun _ _ _ h => h) (Or.inl ⟨by rfl, ?_⟩) ?_ ?_
                rotate_left
                · intro w'
                  go_simp
                  with_reducible rfl
                rotate_left
                · simp only [Act.put, List.setIfInBounds_toArray, List.set_cons_zero, List.set_cons_succ, i64_w, i32_w]
                  rfl
                refine pure_ (i := 4) (N := some 172) (v := ?_) (a' := ?_) #[false, true, false, false, true, false, false, false, false, false] rfl rfl (by kernel_rfl) (fun _ _ _ h => h) (Or.inl ⟨by rfl, ?_⟩) ?_ ?_
                rotate_left
                · intro w'
                  go_simp
                  with_reducible rfl
                rotate_left
                · simp only [Act.put, List.setIfInBounds_toArray, List.set_cons_zero, List.set_cons_succ, i64_w, i32_w]
                  rfl
                refine pure_ (i := 5) (N := some 173) (v := ?_) (a' := ?_) #[false, true, false, false, true, true, false, false, false, false] rfl rfl (by kernel_rfl) (fun _ _ _ h => h) (Or.inl ⟨by rfl, ?_⟩) ?_ ?_
                rotate_left
                · intro w'
                  go_simp
                  with_reducible rfl
                rotate_left
                · simp only [Act.put, List.setIfInBounds_toArray, List.set_cons_zero, List.set_cons_succ, i64_w, i32_w]
                  rfl
                refine pure_ (i := 6) (N := some 174) (v := ?_) (a' := ?_) #[false, true, false, false, true, true, true, false, false, false] rfl rfl (by kernel_rfl) (fun _ _ _ h => h) (Or.inl ⟨by rfl, ?_⟩) ?_ ?_
                rotate_left
                · intro w'
                  go_simp
                  with_reducible rfl
                rotate_left
                · simp only [Act.put, List.setIfInBounds_toArray, List.set_cons_zero, List.set_cons_succ, i64_w, i32_w]
                  rfl
                refine take_ (i := 0) (N := some 168) (v := ?_) (a' := ?_) #[true, true, false, false, true, true, true, false, false, false] rfl rfl (by kernel_rfl) (fun _ _ _ h => h) (Or.inl ⟨by rfl, ?_⟩) hHeld ?_ ?_
                rotate_left
                · rintro w' ⟨s0, s1, s2, s3, s4, s5, s6, s7, s8⟩
                  go_simp
                  with_reducible rfl
                rotate_left
                · simp only [Act.put, List.setIfInBounds_toArray, List.set_cons_zero, List.set_cons_succ, i64_w, i32_w]
                  rfl
                refine pure_ (i := 2) (N := some 170) (v := ?_) (a' := ?_) #[true, true, true, false, true, true, true, false, false, false] rfl rfl (by kernel_rfl) (fun _ _ _ h => h) (Or.inl ⟨by rfl, ?_⟩) ?_ ?_
                rotate_left
                · intro w'
                  go_simp
                  with_reducible rfl
                rotate_left
                · simp only [Act.put, List.setIfInBounds_toArray, List.set_cons_zero, List.set_cons_succ, i64_w, i32_w]
                  rfl
                refine take_ (i := 3) (N := some 171) (v := ?_) (a' := ?_) #[true, true, true, true, true, true, true, false, false, false] rfl rfl (by kernel_rfl) (fun _ _ _ h => h) (Or.inl ⟨by rfl, ?_⟩) hHeld ?_ ?_
                rotate_left
                · rintro w' ⟨s0, s1, s2, s3, s4, s5, s6, s7, s8⟩
                  go_simp
                  with_reducible rfl
                rotate_left
                · simp only [Act.put, List.setIfInBounds_toArray, List.set_cons_zero, List.set_cons_succ, i64_w, i32_w]
                  rfl
                refine take_ (i := 7) (N := some 175) (v := ?_) (a' := ?_) #[true, true, true, true, true, true, true, true, false, false] rfl rfl (by kernel_rfl) (fun _ _ _ h => h) (Or.inl ⟨by rfl, ?_⟩) hHeld ?_ ?_
                rotate_left
                · rintro w' ⟨s0, s1, s2, s3, s4, s5, s6, s7, s8⟩
                  go_simp
                  with_reducible rfl
                rotate_left
                · simp only [Act.put, List.setIfInBounds_toArray, List.set_cons_zero, List.set_cons_succ, i64_w, i32_w]
                  rfl
                refine one_ (i := 8) (N := some 176) #[true, true, true, true, true, true, true, true, true, false] rfl rfl (by kernel_rfl) (by decide) (fun K hK => ?_)
                refine goes_ Try.func35 (by kernel_rfl) rfl #[.agg #[.string t, .slice A1 pp.length c1, .int .i64 qq, .bool rt], .agg #[.string t, .slice A2 pp.length c2, .int .i64 qq, .bool rt]] (by rfl) rfl rfl (by simp only [List.map_toArray, List.map_cons, List.map_nil]; rfl) ?_
                with_reducible refine (HSM.out).mono ?_
                rintro e w9 ⟨rfl, hb9⟩
                refine ⟨_, rfl, ?_⟩
                refine hK.out _ _ ⟨(hb9.cell (p := ⟨Bs, 0, none⟩) hlB).trans bx, (hb9.cell (p := ⟨gs, j * 4, none⟩) hlS).trans x0, (hb9.cell (p := ⟨gs, j * 4 + 1, none⟩) hlS).trans x1, (hb9.cell (p := ⟨gs, j * 4 + 2, none⟩) hlS).trans x2, (hb9.cell (p := ⟨gs, j * 4 + 3, none⟩) hlS).trans x3, (hb9.cell (p := ⟨gt, j * 4, none⟩) hlT).trans y0, (hb9.cell (p := ⟨gt, j * 4 + 1, none⟩) hlT).trans y1, (hb9.cell (p := ⟨gt, j * 4 + 2, none⟩) hlT).trans y2, (hb9.cell (p := ⟨gt, j * 4 + 3, none⟩) hlT).trans y3⟩ (fun hHeld => ?_)
                clear hK K
                refine norm_ (a' := ?_) ?_ ?_
                rotate_left
                · show Act.put _ (some 176) _ = _
                  simp only [Act.put, List.setIfInBounds_toArray, List.set_cons_zero, List.set_cons_succ, i64_w, i32_w]
                  rfl
                refine pure_ (i := 9) (N := some 177) (v := ?_) (a' := ?_) #[true, true, true, true, true, true, true, true, true, true] rfl rfl (by kernel_rfl) (fun _ _ _ h => h) (Or.inl ⟨by rfl, ?_⟩) ?_ ?_
                rotate_left
                · intro w'
                  go_simp
                  with_reducible rfl
                rotate_left
                · simp only [Act.put, List.setIfInBounds_toArray, List.set_cons_zero, List.set_cons_succ, i64_w, i32_w]
                  rfl
                refine done_ (by kernel_rfl) ?_
                have HM9 := Aside0.mk (HM.out.below ((below_drew (Below.refl wr.heap.size wr)).trans (hb9.mono (show wr.heap.size ≤ wr.drew.heap.size from Nat.le_refl _))))
                clear hHeld hb9 bx x0 x1 x2 x3 y0 y1 y2 y3 HM HSM hlB hlS hlT
                go_wp2_with fail
                go_roundg (sent1.length - (j + 1))
                case measure => have := HJ.out; have := HJL.out; omega
                case rel => exact ⟨j + 1, by have := HJL.out; omega, by go_num, HM9⟩
              · have hk1 : decide ((j : Int) < sent1.length) = false := decide_eq_false (by omega)
                have hk2 : decide (j < sent1.length) = false := decide_eq_false hlj
                clear hlj HJ hlen
                go_wp2_with fail
                go_ret
                exact ⟨rfl, HM.out.bel⟩
          --END
        · skip
          --BEG
          as_aux_lemma =>
            have hfl : 0 < s1.flights.length := List.length_pos_iff.2 hf
            have hd1 : decide ((s1.flights.length : Int) > 0) = true := decide_eq_true (by omega)
            have hd2 : decide (0 < s1.flights.length) = true := decide_eq_true hfl
            have hd3 : decide ((r : Int) > 3 * ((taken.length : Int) + 1)) = false := decide_eq_false (by have := HR1.out; omega)
            have hd4 : decide (3 * ((taken.length : Int) + 1) < (r : Int)) = false := decide_eq_false (by have := HR1.out; omega)
            have hrb : (r : Int) ≤ 600 := by have := HR1.out; omega
            obtain ⟨f, fr, hff⟩ := List.exists_cons_of_ne_nil hf
            have HFF := Aside0.mk hff
            clear hf hff
            go_wp2_with fail
            refine (flying_any HM.out.win).mono ?_
            rintro e w6 ⟨rfl, rfl⟩
            go_wp2_with fail
            refine (image_any HM.out.win HI.out.inv.ok HI.out.pl).mono ?_
            rintro e w6 ⟨vF, vQ, rfl, hRF, hRQ, hb⟩
            have HM6 := Aside0.mk (HM.out.below hb)
            obtain ⟨gF, cF, hvF, _⟩ := Kd.R_form hRF hfl
            obtain ⟨AQ, cQ, hvQ⟩ := Kd.R_slice hRQ
            subst hvF hvQ
            obtain ⟨ad1, Ap1, cp1, hA1, f0, f1, f2, f3, f4, f5, _⟩ := flt_at (Kd.R_reads' hRF).2.2 0 hfl
            injection hA1 with hA1
            subst hA1
            rw [HFF.out] at f0 f1 f2 f3 f4 f5
            simp only [List.getD_cons_zero, Nat.zero_mul, Go.Proofs.YtjccmlmkcjmicaaW.PrintWords.add_plain, Nat.zero_add] at f0 f1 f2 f3 f4 f5
            clear hRF hRQ hb HM hd1 hd2
            obtain ⟨fid, ⟨ft, fp, fq, frt⟩, frel⟩ := f
            dsimp only at f0 f1 f2 f3 f4 f5
            generalize s1.flights.length = nF at *
            have hfield := field_flights
            have hnf : (0 : Int) < (nF : Int) := by omega
            have hnf2 : decide (0 < nF) = true := decide_eq_true hfl
            have HZ := Aside0.mk (HM6.out.below ((Below.refl w6.heap.size w6).alloc (Nat.le_refl _) (.cells #[.int .i64 fid, .string ft, .slice Ap1 fp.length cp1, .int .i64 fq, .bool frt, .bool frel] 82)))
            have HBF := Aside0.mk (alloc_new w6 (.cells #[.int .i64 fid, .string ft, .slice Ap1 fp.length cp1, .int .i64 fq, .bool frt, .bool frel] 82))
            have HNB := Aside0.mk (show ¬ okw1 w6.heap.size from fun e => by have := (HM6.out.wlt _ e).2; omega)
            have hsl := HI.out.len
            have hal := fun kd => ackF_len HI.out.inv.ok kd fid
            clear HM6
            by_cases hdone : ∃ kd, ackDone kd ⟨fid, ⟨ft, fp, fq, frt⟩, frel⟩ ∧ (frel = true ∧ kd = 7 ∨ frel = false ∧ fq ≠ 2 ∧ kd = 4)
            · obtain ⟨kd, hd, hkd⟩ := hdone
              have hnd := ack_head_done HFF.out HO.out hd
              have HA := Aside0.mk (ack_any HZ.out.win HI.out.inv.ok HI.out.pl kd fid w HZ.out.bel HZ.out.bel.size)
              have HND := Aside0.mk (And.intro hnd (And.intro hsl (hal kd)))
              clear hnd hsl hal hd
              rcases hkd with ⟨rfl, rfl⟩ | ⟨rfl, hq2, rfl⟩
              · go_wp2_with fail
                refine HA.out.mono ?_
                rintro e w7 ⟨v1, okp1, rfl, hF⟩
                have HC := Aside0.mk (HZ.out.call hF)
                have HI7 := Aside0.mk (HI.out.ack 7 fid)
                have HH := Aside0.mk (HC.out.hears (by have h1 := HND.out.2.1; have h2 := HND.out.2.2; omega))
                clear hF HA HZ HC f0 f1 f2 f3 f4 f5 HBF
                go_wp2_with fail
                refine HH.out.mono ?_
                rintro e w8 ⟨rfl, vs2, avs2, hM⟩
                have HM := Aside0.mk hM
                clear hM HH
                go_wp2_with fail
                go_roundg (need (ackF s1 7 fid).2)
                case measure => have h1 := HND.out.1.1; have h2 := HQ.out; omega
                case rel => exact ⟨r + 1, _, _, _, _, _, ⟨by have h1 := HND.out.1.1; have h2 := HR1.out; omega⟩, ⟨rfl⟩, by go_num, HM, HI7, ⟨HND.out.1.2⟩⟩
              · have q2 : (fq == 2) = false := by simpa using hq2
                clear hq2
                go_wp2_with fail
                refine HA.out.mono ?_
                rintro e w7 ⟨v1, okp1, rfl, hF⟩
                have HC := Aside0.mk (HZ.out.call hF)
                have HI7 := Aside0.mk (HI.out.ack 4 fid)
                have HH := Aside0.mk (HC.out.hears (by have h1 := HND.out.2.1; have h2 := HND.out.2.2; omega))
                clear hF HA HZ HC f0 f1 f2 f3 f4 f5 HBF
                go_wp2_with fail
                refine HH.out.mono ?_
                rintro e w8 ⟨rfl, vs2, avs2, hM⟩
                have HM := Aside0.mk hM
                clear hM HH
                go_wp2_with fail
                go_roundg (need (ackF s1 4 fid).2)
                case measure => have h1 := HND.out.1.1; have h2 := HQ.out; omega
                case rel => exact ⟨r + 1, _, _, _, _, _, ⟨by have h1 := HND.out.1.1; have h2 := HR1.out; omega⟩, ⟨rfl⟩, by go_num, HM, HI7, ⟨HND.out.1.2⟩⟩
            · have hcase : frel = false ∧ fq = 2 := by
                cases frel
                · refine ⟨rfl, ?_⟩
                  refine Classical.byContradiction (fun hq => ?_)
                  have hmem : (⟨fid, ⟨ft, fp, fq, frt⟩, false⟩ : Flt) ∈ s1.flights := by rw [HFF.out]; exact List.mem_cons_self
                  rcases HI.out.o.qf _ hmem with h | h
                  · cases h
                  · unfold sendB at h
                    simp only [Bool.or_eq_true, beq_iff_eq] at h
                    refine hdone ⟨4, .inl ⟨rfl, rfl, ?_⟩, .inr ⟨rfl, hq, rfl⟩⟩
                    rcases h with h | h
                    · exact h
                    · exact (hq h).elim
                · exact (hdone ⟨7, .inr ⟨rfl, rfl⟩, .inl ⟨rfl, rfl⟩⟩).elim
              obtain ⟨rfl, rfl⟩ := hcase
              have hnd := ack_head_rec HFF.out HO.out rfl rfl
              have HA := Aside0.mk (ack_any HZ.out.win HI.out.inv.ok HI.out.pl 5 fid w HZ.out.bel HZ.out.bel.size)
              have HND := Aside0.mk hnd
              clear hnd hsl hal hdone
              go_wp2_with fail
              refine HA.out.mono ?_
              rintro e w7 ⟨v1, okp1, rfl, hF⟩
              have HC := Aside0.mk (HZ.out.call hF)
              have HBF7 := Aside0.mk ((hF.fr.block w6.heap.size (blk_lt HBF.out) HNB.out).trans HBF.out)
              have HI7 := HI.out.ack 5 fid
              have hpk := hF.pk
              have hps := HND.out.2.2
              rw [hps] at HI7 hpk
              have HI8 := Aside0.mk (show OnceI (ackF s1 5 fid).2 taken sent1 from by
                have h := HI7
                rw [heard_cons, heardB_rel] at h
                simpa [heard] using h)
              obtain ⟨gp, cp2, rfl, hone⟩ := R_one_val hpk
              have p0 : w7.cell? ⟨gp, 0, none⟩ = some (.int .i64 6) := hone.kind
              have p3 : w7.cell? ⟨gp, 21, none⟩ = some (.int .i64 fid) := hone.id
              have b0 : w7.cell? ⟨w6.heap.size, 0, none⟩ = some (.int .i64 fid) := blk_cell HBF7.out 0
              have HM7 := Aside0.mk HC.out.mem
              have hne : (fid != fid) = false := by simp
              clear hF HA HZ HC f0 f1 f2 f3 f4 f5 HBF hpk hps HI7 hone HBF7
              generalize w6.heap.size = Bf at *
              go_wp2_with fail
              go_quiet (fail)
              have HM9 := fun nq => Aside0.mk (HM7.out.below (pw_below_drewN (Below.refl w7.heap.size w7) nq))
              clear p0 p3 b0 hne HM7
              go_wp2_with fail
              go_roundg (need (ackF s1 5 fid).2)
              case measure => have h1 := HND.out.1; have h2 := HQ.out; omega
              case rel => exact ⟨r + 1, _, _, _, _, _, ⟨by have h1 := HND.out.1; have h2 := HR1.out; omega⟩, ⟨rfl⟩, by go_num, HM9 _, HI8, ⟨HND.out.2.1⟩⟩
          --END
end Go.Proofs.Ytjccmlmkcjmicaa.Win

/- codec's reader reads what stands behind a length. No statement of the program. -/
import Derived.Test.YthlbcgaegaoanaaDoorMConn
namespace Go.Proofs.YthlbcgaegaoanaaDoor.Cr
open Go Go.RowKit Go.Proofs.YthlbcgaegaoanaaDoorW.PrintWords Go.Proofs.YthlbcgaegaoanaaDoorW.PrintLast Go.Proofs.YthlbcgaegaoanaaDoorW.PrintMore Go.Proofs.YthlbcgaegaoanaaDoor.Kinds Go.Proofs.YthlbcgaegaoanaaDoor.Utf Go.Proofs.YthlbcgaegaoanaaDoor.Chk Go.Proofs.YthlbcgaegaoanaaDoor.Rdr
set_option linter.unusedVariables false
set_option linter.unusedSimpArgs false
set_option maxRecDepth 100000 in
set_option maxHeartbeats 4000000 in
theorem fields_any {w : World} {base C B : Nat} {l : List Int} {n : Int} (h : CrIs w base C B l 0 none n none) (hn : n = l.length) (k fl : Int) (hk0 : 1 ≤ k) (hk1 : k ≤ 14) (hf0 : 0 ≤ fl) (hf1 : fl ≤ 15) :
    Calls Tryd.prog 20 #[.pointer (some ⟨C, 0, none⟩), .int .i64 k, .int .i64 fl] w fun e w' => ∃ cs : List Value, e = .returned (.agg cs.toArray) ∧ kPkt.M w' base (fun _ => True) (fFields l k fl).p cs ∧ CrIs w' base C B l (fFields l k fl).a (fFields l k fl).f n (fFields l k fl).bad ∧ Fr (okP w base w.heap.size) w w' := by
  have hlC := h.lt
  have hlB := h.rd.lt
  have hgb := h.ge
  have hw := h.rd.byte
  obtain ⟨r, hr⟩ : ∃ r, r = fFields l k fl := ⟨_, rfl⟩
  rw [← hr]
  obtain ⟨Q, hQ⟩ : ∃ Q, Q = w.heap.size + 1 := ⟨_, rfl⟩
  obtain ⟨W2, hW2⟩ : ∃ W2 : World, W2 = ((w.alloc (.cells noCells 43)).alloc (.cells noCells 43)).setRow (w.heap.size + 1) (kCells k) := ⟨_, rfl⟩
  have hB2 : Below w.heap.size w W2 := by rw [hW2]; exact setRow_below (((Below.refl _ _).alloc (Nat.le_refl _) _).alloc (by simp) _) (by omega) _
  have hQ2 : W2.heap[Q]? = some (.cells (kCells k) 43 (0, 0)) := by rw [hW2, hQ]; exact setRow_block (alloc_new2 _ _ _)
  have hQ0 : W2.heap[w.heap.size]? = some (.cells noCells 43 (0, 0)) := by
    rw [hW2, setRow_far (by omega)]
    exact (Below.heap_alloc _ _ _ (by simp)).trans (heap_alloc_new _ _)
  have HC2 := Aside0.mk (show Cn W2 base C B Q l 0 none n none (pKind k) from ⟨h.below hB2, ⟨⟨_, _, _, _, _, _, hQ2, Kd.R_nil _ _ _ _ _, Kd.R_nil _ _ _ _ _, Kd.R_nil _ _ _ _ _, Kd.R_nil _ _ _ _ _, Kd.R_nil _ _ _ _ _, Kd.R_nil _ _ _ _ _⟩, by omega⟩⟩)
  have HB2 := Aside0.mk hB2
  have HQ0 := Aside0.mk hQ0
  have HQ := Aside0.mk hQ
  have HW2 := Aside0.mk hW2
  have HNE := Aside0.mk (show w.heap.size ≠ B ∧ w.heap.size ≠ C ∧ w.heap.size ≠ Q by omega)
  have HLT := Aside0.mk (show base ≤ w.heap.size by omega)
  have HR := Aside0.mk hr
  have HN := Aside0.mk hn
  have HW := Aside0.mk hw
  clear h hr hW2 hB2 hQ2 hQ0 hQ hn hw
  go_enter Tryd.func20, Tryd.ntmps20
  go_upto_region 1 with fail
  go_cut [7] (fun s7 wx => s7 = .pointer (some ⟨Q, 0, none⟩) ∧ W2 = wx)
  case first =>
    go_wp2_with (refine wpList_store_row rfl 43 _ _ rfl (w.heap.size + 1) _ rfl rfl 43 _ (alloc_new2 _ _ _) pktSize rfl (by simp [Value.oneCell']) ?_)
    go_meet
    case rel => exact ⟨by rw [HQ.out], by rw [HW2.out]; rfl⟩
  case rest =>
    obtain ⟨rfl, rfl⟩ := hcut
    clear HW2
    go_upto_block 0 with fail
    go_cut [] (fun wx => FieldsAt W2 base C B Q w.heap.size l n r wx)
    case first =>
      have hk : k = 1 ∨ k = 2 ∨ k = 3 ∨ k = 8 ∨ k = 9 ∨ k = 10 ∨ (k = 4 ∨ k = 5 ∨ k = 6 ∨ k = 7 ∨ k = 11) ∨ (k = 12 ∨ k = 13 ∨ k = 14) := by omega
      have c0 := HC2.out.c0
      have hne : ¬ C = Q := HC2.out.ne
      have hne2 : ¬ Q = C := fun e => hne e.symm
      have HF0 := Aside0.mk (Fr.refl (ok3 B C Q) W2)
      rcases hk with rfl | rfl | rfl | rfl | rfl | rfl | hk | hk
      · as_aux_lemma =>
        have hr := HR.out
        rw [show fFields l 1 fl = ⟨(cConn l 0 none (pKind 1)).a, (cConn l 0 none (pKind 1)).f, cBad l 0 none none, (cConn l 0 none (pKind 1)).p⟩ from rfl] at hr
        have HR2 := Aside0.mk hr
        clear hr
        go_wp2_with (go_at_call 29; (with_reducible refine (connect_any HC2.out).mono ?_); rintro e w3 ⟨rfl, hC, hF⟩; have HA := Aside0.mk hC; have HB := Aside0.mk hF; clear hC hF)
        go_meet
        case rel => exact FieldsAt.of HC2.out (by rw [HR2.out]; exact HA.out) HB.out HQ0.out HNE.out.1 HNE.out.2.1 HNE.out.2.2
      · as_aux_lemma =>
        obtain ⟨b, hb⟩ : ∃ b, b = rByte l 0 none := ⟨_, rfl⟩
        obtain ⟨c, hc⟩ : ∃ c, c = rByte l b.a b.f := ⟨_, rfl⟩
        obtain ⟨e1, he1⟩ : ∃ e1, e1 = rEnd l c.a c.f := ⟨_, rfl⟩
        obtain ⟨b1, hb1⟩ : ∃ b1, b1 = if decide (b.v > 1) = true then cFail 0 34 b.f none else none := ⟨_, rfl⟩
        have hr := HR.out
        rw [show fFields l 2 fl = fConnack l (pKind 2) from rfl] at hr
        have HR2 := Aside0.mk (show r = ⟨c.a, e1, b1, uCode (uPresent (pKind 2) (b.v == 1)) c.v⟩ by rw [hr]; simp only [fConnack, hb1, he1, hc, hb])
        have hcr : 0 ≤ c.v ∧ c.v ≤ 255 := by rw [hc]; exact rByte_range l _ _ HW.out
        obtain ⟨cr0, cr1⟩ := hcr
        have ec : wrap64 c.v = c.v := by unfold wrap64; omega
        have HBB := Aside0.mk hb
        have HCC := Aside0.mk hc
        have HEE := Aside0.mk he1
        have HB1 := Aside0.mk hb1
        clear hr hb hc he1 hb1
        go_upto_if 39 with (go_at_call 30; (with_reducible refine (cn_byte HC2.out b HBB.out).mono ?_); rintro e w3 ⟨rfl, hC, hF⟩; have HC3 := Aside0.mk hC; have HF3 := Aside0.mk (Fr.b3 HF0.out hF); clear hC hF c0)
        go_cut [] (fun wx => Aside0 (Cn wx base C B Q l b.a b.f n b1 (pKind 2)) ∧ Aside0 (Fr (ok3 B C Q) W2 wx))
        case first =>
          cases hq : decide (b.v > 1) with
          | true =>
            have hb := HB1.out
            rw [if_pos hq] at hb
            go_wp2_with fail
            refine (cn_fail HC3.out 0 34 b1 hb).mono ?_
            rintro e w4 ⟨rfl, hC, hF⟩
            have HG := Aside0.mk hC
            have HG2 := Aside0.mk (Fr.c3 HF3.out hF)
            clear hC hF hb
            go_wp2
            go_meet
            case rel => exact ⟨HG, HG2⟩
          | false =>
            have hb := HB1.out
            rw [if_neg (by rw [hq]; decide)] at hb
            subst hb
            go_wp2
            go_meet
            case rel => exact ⟨HC3, HF3⟩
        case rest =>
          obtain ⟨HC4, HF4⟩ := hcut
          have c0 := HC4.out.c0
          clear HC3 HF3
          go_wp2_with (first
            | (go_at_call 30; (with_reducible refine (cn_byte HC4.out c HCC.out).mono ?_); rintro e w5 ⟨rfl, hC, hF⟩; clear c0; have c0 := hC.c0; have qf := hC.pk.free; obtain ⟨o14, q14⟩ := hC.pk.cell 14 (by decide); obtain ⟨o15, q15⟩ := hC.pk.cell 15 (by decide); have h1 := hC.pkt (hC.pk.present (b.v == 1)); have HC5 := Aside0.mk (h1.pkt (h1.pk.code c.v)); have HF5 := Aside0.mk (Fr.q3 (Fr.q3 (Fr.b3 HF4.out hF) 14 (.bool (b.v == 1))) 15 (.int .i64 c.v)); clear hC hF h1)
            | (go_at_call 32; (with_reducible refine (cn_end HC5.out e1 HEE.out).mono ?_); rintro e w6 ⟨rfl, hC, hF⟩; have HC6 := Aside0.mk hC; have HF6 := Aside0.mk (Fr.b3 HF5.out hF); clear hC hF))
          go_meet
          case rel => exact FieldsAt.of HC2.out (by rw [HR2.out]; exact HC6.out) HF6.out HQ0.out HNE.out.1 HNE.out.2.1 HNE.out.2.2
      · as_aux_lemma =>
        obtain ⟨t, ht⟩ : ∃ t, t = rText l 0 none := ⟨_, rfl⟩
        obtain ⟨p1, hp1⟩ : ∃ p1, p1 = pPub (pKind 3) fl := ⟨_, rfl⟩
        obtain ⟨s4, hs4⟩ : ∃ s4 : CS, s4 = ⟨t.a, t.f, uTopic p1 t.v⟩ := ⟨_, rfl⟩
        obtain ⟨s5, hs5⟩ : ∃ s5, s5 = sId l s4 := ⟨_, rfl⟩
        obtain ⟨d, hd⟩ : ∃ d, d = rRest l s5.a s5.f := ⟨_, rfl⟩
        have hr := HR.out
        rw [show fFields l 3 fl = fPublish l fl (pKind 3) from rfl] at hr
        have HR2 := Aside0.mk (show r = ⟨d.a, d.f, none, uPayload s5.p d.v⟩ by rw [hr]; simp only [fPublish, hd, hs5, hs4, hp1, ht])
        have HT := Aside0.mk ht
        have HP1 := Aside0.mk hp1
        have HS4 := Aside0.mk hs4
        have HS5 := Aside0.mk hs5
        have HD := Aside0.mk hd
        clear hr ht hp1 hs4 hs5 hd
        have qf := HC2.out.pk.free
        obtain ⟨o16, q16⟩ := HC2.out.pk.cell 16 (by decide)
        obtain ⟨o19, q19⟩ := HC2.out.pk.cell 19 (by decide)
        obtain ⟨o20, q20⟩ := HC2.out.pk.cell 20 (by decide)
        have h1 := HC2.out.pkt (HC2.out.pk.dup (bits .and .i64 fl 8 != 0))
        have h2 := h1.pkt (h1.pk.qos (bits .and .i64 (fl / 2) 3))
        have h3 := h2.pkt (h2.pk.retain (bits .and .i64 fl 1 != 0))
        have h4 := Aside0.mk (show Cn _ base C B Q l 0 none n none p1 by rw [HP1.out]; exact h3)
        have HF4 := Aside0.mk (Fr.q3 (Fr.q3 (Fr.q3 HF0.out 16 (.bool (bits .and .i64 fl 8 != 0))) 19 (.int .i64 (bits .and .i64 (fl / 2) 3))) 20 (.bool (bits .and .i64 fl 1 != 0)))
        clear h1 h2 h3
        go_upto_if 81 with (go_at_call 33; (with_reducible refine (cn_text h4.out t HT.out).mono ?_); rintro e w7 ⟨rfl, hC, hF⟩; clear c0 qf q16 q19 q20; have c0 := hC.c0; have qf := hC.pk.free; obtain ⟨o17, q17⟩ := hC.pk.cell 17 (by decide); have q19 : w7.cell? ⟨Q, 19, none⟩ = some (.int .i64 s4.p.msg.qos) := (by rw [HS4.out]; exact hC.pk.has.2.2.2); have HC7 := Aside0.mk (show Cn _ base C B Q l s4.a s4.f n none s4.p by rw [HS4.out]; exact hC.pkt (hC.pk.topic t.v)); have HF7 := Aside0.mk (Fr.q3 (Fr.b3 HF4.out hF) 17 (.string t.v)); clear hC hF h4)
        go_cut [] (fun wx => Aside0 (Cn wx base C B Q l s5.a s5.f n none s5.p) ∧ Aside0 (Fr (ok3 B C Q) W2 wx))
        case first =>
          cases hq : decide (s4.p.msg.qos > 0) with
          | true =>
            obtain ⟨i, hi⟩ : ∃ i, i = rNum l s4.a s4.f := ⟨_, rfl⟩
            have HE := Aside0.mk (show s5 = ⟨i.a, i.f, uId s4.p i.v⟩ by rw [HS5.out]; simp only [sId, if_pos hq, hi])
            have HII := Aside0.mk hi
            clear hi
            go_wp2_with (go_at_call 34; (with_reducible refine (cn_num HC7.out i HII.out).mono ?_); rintro e w9 ⟨rfl, hC, hF⟩; have qf2 := hC.pk.free; obtain ⟨o21, q21⟩ := hC.pk.cell 21 (by decide); have HG := Aside0.mk (show Cn _ base C B Q l s5.a s5.f n none s5.p by rw [HE.out]; exact hC.pkt (hC.pk.id i.v)); have HG2 := Aside0.mk (Fr.q3 (Fr.b3 HF7.out hF) 21 (.int .i64 i.v)); clear hC hF)
            go_meet
            case rel => exact ⟨HG, HG2⟩
          | false =>
            have HE := Aside0.mk (show s5 = s4 by rw [HS5.out]; simp only [sId]; rw [if_neg (by rw [hq]; decide)])
            go_wp2
            go_meet
            case rel => exact ⟨⟨by rw [HE.out]; exact HC7.out⟩, HF7⟩
        case rest =>
          obtain ⟨HC8, HF8⟩ := hcut
          clear HC7 HF7 c0 qf q17 q19
          have c0 := HC8.out.c0
          go_wp2_with (go_at_call 35; (with_reducible refine (cn_rest HC8.out d HD.out).mono ?_); rintro e w9 ⟨vd, rfl, hV, hC, hF⟩; obtain ⟨Av, cv, rfl⟩ := Kd.R_slice hV; have qf := hC.pk.free; obtain ⟨o18, q18⟩ := hC.pk.cell 18 (by decide); have HG := Aside0.mk (hC.pkt (hC.pk.payload hV)); have HG2 := Aside0.mk (Fr.q3 (Fr.b3 HF8.out hF) 18 (.slice Av d.v.length cv)); clear hC hF hV)
          go_meet
          case rel => exact FieldsAt.of HC2.out (by rw [HR2.out]; exact HG.out) HG2.out HQ0.out HNE.out.1 HNE.out.2.1 HNE.out.2.2
      · as_aux_lemma =>
        obtain ⟨i, hi⟩ : ∃ i, i = rNum l 0 none := ⟨_, rfl⟩
        obtain ⟨s0, hs0⟩ : ∃ s0 : CS, s0 = ⟨i.a, i.f, uId (pKind 8) i.v⟩ := ⟨_, rfl⟩
        obtain ⟨sF, hsF⟩ : ∃ sF, sF = subG l n (l.length + 1) s0 := ⟨_, rfl⟩
        have HR2 := Aside0.mk (show r = ⟨sF.a, sF.f, none, sF.p⟩ by
          rw [HR.out, show fFields l 8 fl = (let s := subG l l.length (l.length + 1) (cId l (pKind 8)); ⟨s.a, s.f, none, s.p⟩) from rfl]
          simp only [hsF, hs0, hi, HN.out, cId])
        have HII := Aside0.mk hi
        have HS0 := Aside0.mk hs0
        have HSF := Aside0.mk hsF
        clear hi hs0 hsF
        go_wp2_with (go_at_call 34; (with_reducible refine (cn_num HC2.out i HII.out).mono ?_); rintro e w5 ⟨rfl, hC, hF⟩; clear c0; have c0 := hC.c0; have qf := hC.pk.free; obtain ⟨o21, q21⟩ := hC.pk.cell 21 (by decide); have HC5 := Aside0.mk (show Cn _ base C B Q l s0.a s0.f n none s0.p by rw [HS0.out]; exact hC.pkt (hC.pk.id i.v)); have HF5 := Aside0.mk (Fr.q3 (Fr.b3 HF0.out hF) 21 (.int .i64 i.v)); clear hC hF)
        have HL0 : Aside0 (SubLp W2 base C B Q w.heap.size l n sF (l.length + 1) (w5.setCell ⟨Q, 21, none⟩ (.int .i64 i.v))) := Aside0.mk (by
          have hx := FieldsAt.of HC2.out (r := ⟨s0.a, s0.f, none, s0.p⟩) HC5.out HF5.out HQ0.out HNE.out.1 HNE.out.2.1 HNE.out.2.2
          exact ⟨s0, ⟨hx.cn, hx.q0, hx.fr⟩, HSF.out.symm, by have := HC5.out.cr.rd.lo; have := HC5.out.cr.rd.hi; unfold mS; split <;> omega, by rw [HS0.out]; simp [uId, pKind, noPkt]⟩)
        clear HC5 HF5 c0 qf q21 HS0 HSF HII HC2 HF0
        go_loopg [] (l.length + 1) (fun q wr => SubLp W2 base C B Q w.heap.size l n sF q wr)
        case atStart => exact HL0.out
        case round =>
          obtain ⟨s, hL, hG, hm, hlen⟩ := hrel
          clear HL0
          have c0 := hL.cn.c0
          have hrd := hL.cn.cr.rd
          have hlo := hrd.lo
          have hhi := hrd.hi
          have hll := hrd.len
          clear hrd
          have HL := Aside0.mk hL
          clear hL
          cases hmore : cMore s.a s.f n none with
          | true =>
            obtain ⟨hfn, han⟩ := cMore_true hmore
            have hm1 : 1 ≤ mS l s := by unfold mS; rw [hfn]; simp
            obtain ⟨q1, rfl⟩ : ∃ q1, gk = q1 + 1 := ⟨gk - 1, by omega⟩
            have HMORE := Aside0.mk hmore
            obtain ⟨t, ht⟩ : ∃ t, t = rText l s.a s.f := ⟨_, rfl⟩
            obtain ⟨b, hb⟩ : ∃ b, b = rByte l t.a t.f := ⟨_, rfl⟩
            have HTT := Aside0.mk ht
            have HBB := Aside0.mk hb
            have HNX := Aside0.mk (show subG l n q1 ⟨b.a, b.f, uAsks s.p (s.p.asks ++ [(⟨t.v, b.v⟩ : AskV)])⟩ = sF by
              rw [← hG]; simp only [subG]; rw [if_pos hmore]; simp only [hb, ht])
            have HMM := Aside0.mk (show mS l ⟨b.a, b.f, uAsks s.p (s.p.asks ++ [(⟨t.v, b.v⟩ : AskV)])⟩ ≤ q1 by
              have e := HN.out
              have h1 := mS_text l s.a s.p s.p HW.out hlo (by omega)
              have h2 := mS_byte l t.a t.f s.p (uAsks s.p (s.p.asks ++ [⟨t.v, b.v⟩]))
              rw [← hb] at h2
              rw [← hfn, ← ht] at h1
              have h3 : mS l ⟨s.a, s.f, s.p⟩ = mS l s := rfl
              omega)
            have HLEN := Aside0.mk (show s.p.asks.length + 1 ≤ l.length + 1 ∧ (s.p.asks ++ [(⟨t.v, b.v⟩ : AskV)]).length + q1 ≤ l.length + 1 by constructor <;> simp <;> omega)
            have HLL := Aside0.mk hll
            clear hG hm hlen hmore hfn han hm1 hlo hhi hll
            have hbr : 0 ≤ b.v ∧ b.v ≤ 255 := by rw [hb]; exact rByte_range l _ _ HW.out
            obtain ⟨br0, br1⟩ := hbr
            have ebw : wrap64 b.v = b.v := by unfold wrap64; omega
            clear ht hb
            go_upto_region 28 with (first
              | (go_at_call 36; (with_reducible refine (cn_more HL.out.cn).mono ?_); rintro e w6 ⟨rfl, hC6, hB6⟩; rw [HMORE.out]; clear c0; have c0 := hC6.c0; have HL6 := Aside0.mk (HL.out.below hB6); clear hC6 hB6 HL)
              | (go_at_call 33; (with_reducible refine (cn_text HL6.out.cn t HTT.out).mono ?_); rintro e w7 ⟨rfl, hC7, hF7⟩; clear c0; have c0 := hC7.c0; have HL7 := Aside0.mk (HL6.out.b (s2 := ⟨t.a, t.f, s.p⟩) hC7 hF7); clear hC7 hF7 HL6))
            have HD := Aside0.mk (HL7.out.below (w1 := w7.drew) (below_drew1 (Below.refl _ _)))
            obtain ⟨va, qv, hRa⟩ := HL7.out.cn.pk.asksAt
            have HRA := Aside0.mk hRa
            clear hRa
            obtain ⟨Av, cv, hva⟩ := Kd.R_slice HRA.out
            subst hva
            clear HRA
            refine start_ (n := 14) (S := fun w' => w'.cell? ⟨Q, 22, none⟩ = some (.slice Av s.p.asks.length cv) ∧ w'.cell? ⟨C, 0, none⟩ = some (.pointer (some ⟨B, 0, none⟩))) (ds := [11, 13]) #[false, false, false, false, false, false, false, false, false, false, false, false, false, false] (by kernel_rfl) rfl rfl ⟨qv, c0⟩ (fun hHeld => ?_)
            refine pure_ (i := 0) (N := some 108) (v := ?_) (a' := ?_) #[true, false, false, false, false, false, false, false, false, false, false, false, false, false] rfl rfl (by kernel_rfl) (fun _ _ _ h => h) (Or.inl ⟨by rfl, ?_⟩) ?_ ?_
            rotate_left
            · intro w'
              go_simp
              with_reducible rfl
            rotate_left
            · simp only [Act.put, List.setIfInBounds_toArray, List.set_cons_zero, List.set_cons_succ, i64_w, i32_w]
              rfl
            refine pure_ (i := 2) (N := some 110) (v := ?_) (a' := ?_) #[true, false, true, false, false, false, false, false, false, false, false, false, false, false] rfl rfl (by kernel_rfl) (fun _ _ _ h => h) (Or.inl ⟨by rfl, ?_⟩) ?_ ?_
            rotate_left
            · intro w'
              go_simp
              with_reducible rfl
            rotate_left
            · simp only [Act.put, List.setIfInBounds_toArray, List.set_cons_zero, List.set_cons_succ, i64_w, i32_w]
              rfl
            refine pure_ (i := 3) (N := some 111) (v := ?_) (a' := ?_) #[true, false, true, true, false, false, false, false, false, false, false, false, false, false] rfl rfl (by kernel_rfl) (fun _ _ _ h => h) (Or.inl ⟨by rfl, ?_⟩) ?_ ?_
            rotate_left
            · intro w'
              go_simp
              with_reducible rfl
            rotate_left
            · simp only [Act.put, List.setIfInBounds_toArray, List.set_cons_zero, List.set_cons_succ, i64_w, i32_w]
              rfl
            refine pure_ (i := 4) (N := some 112) (v := ?_) (a' := ?_) #[true, false, true, true, true, false, false, false, false, false, false, false, false, false] rfl rfl (by kernel_rfl) (fun _ _ _ h => h) (Or.inl ⟨by rfl, ?_⟩) ?_ ?_
            rotate_left
            · intro w'
              go_simp
              with_reducible rfl
            rotate_left
            · simp only [Act.put, List.setIfInBounds_toArray, List.set_cons_zero, List.set_cons_succ, i64_w, i32_w]
              rfl
            refine pure_ (i := 5) (N := some 113) (v := ?_) (a' := ?_) #[true, false, true, true, true, true, false, false, false, false, false, false, false, false] rfl rfl (by kernel_rfl) (fun _ _ _ h => h) (Or.inl ⟨by rfl, ?_⟩) ?_ ?_
            rotate_left
            · intro w'
              go_simp
              with_reducible rfl
            rotate_left
            · simp only [Act.put, List.setIfInBounds_toArray, List.set_cons_zero, List.set_cons_succ, i64_w, i32_w]
              rfl
            refine take_ (i := 1) (N := some 109) (v := ?_) (a' := ?_) #[true, true, true, true, true, true, false, false, false, false, false, false, false, false] rfl rfl (by kernel_rfl) (fun _ _ _ h => h) (Or.inl ⟨by rfl, ?_⟩) hHeld ?_ ?_
            rotate_left
            · rintro w' ⟨s0, s1⟩
              go_simp
              with_reducible rfl
            rotate_left
            · simp only [Act.put, List.setIfInBounds_toArray, List.set_cons_zero, List.set_cons_succ, i64_w, i32_w]
              rfl
            refine take_ (i := 6) (N := some 114) (v := ?_) (a' := ?_) #[true, true, true, true, true, true, true, false, false, false, false, false, false, false] rfl rfl (by kernel_rfl) (fun _ _ _ h => h) (Or.inl ⟨by rfl, ?_⟩) hHeld ?_ ?_
            rotate_left
            · rintro w' ⟨s0, s1⟩
              go_simp
              with_reducible rfl
            rotate_left
            · simp only [Act.put, List.setIfInBounds_toArray, List.set_cons_zero, List.set_cons_succ, i64_w, i32_w]
              rfl
            refine one_ (i := 7) (N := some 115) #[true, true, true, true, true, true, true, true, false, false, false, false, false, false] rfl rfl (by kernel_rfl) (by decide) (fun K hK => ?_)
            refine goes_ Tryd.func30 (by kernel_rfl) rfl #[.pointer (some ⟨B, 0, none⟩)] (by rfl) rfl rfl (by simp only [List.map_toArray, List.map_cons, List.map_nil]; rfl) ?_
            with_reducible refine (cn_byte HD.out.cn b HBB.out).mono ?_
            rintro e w8 ⟨rfl, hC8, hF8⟩
            refine ⟨_, rfl, ?_⟩
            have hL8 := HD.out.b (s2 := ⟨b.a, b.f, s.p⟩) hC8 hF8
            have qv8 : w8.cell? ⟨Q, 22, none⟩ = some (.slice Av s.p.asks.length cv) := (fr_cell hF8 22 HD.out.cn.ltQ HD.out.cn.neB).trans qv
            obtain ⟨va8, qv9, hR8⟩ := hC8.pk.asksAt
            obtain rfl : va8 = .slice Av s.p.asks.length cv := Option.some.inj (qv9.symm.trans qv8)
            refine hK.out _ _ ⟨qv8, hC8.c0⟩ (fun hHeld => ?_)
            clear hK K
            refine norm_ (a' := ?_) ?_ ?_
            rotate_left
            · show Act.put _ (some 115) _ = _
              simp only [Act.put, List.setIfInBounds_toArray, List.set_cons_zero, List.set_cons_succ, i64_w, i32_w]
              rfl
            refine pure_ (i := 8) (N := some 116) (v := ?_) (a' := ?_) #[true, true, true, true, true, true, true, true, true, false, false, false, false, false] rfl rfl (by kernel_rfl) (fun _ _ _ h => h) (Or.inl ⟨by rfl, ?_⟩) ?_ ?_
            rotate_left
            · intro w'
              go_simp
              with_reducible rfl
            rotate_left
            · simp only [Act.put, List.setIfInBounds_toArray, List.set_cons_zero, List.set_cons_succ, i64_w, i32_w]
              rfl
            refine pure_ (i := 9) (N := some 117) (v := ?_) (a' := ?_) #[true, true, true, true, true, true, true, true, true, true, false, false, false, false] rfl rfl (by kernel_rfl) (fun _ _ _ h => h) (Or.inl ⟨by rfl, ?_⟩) ?_ ?_
            rotate_left
            · intro w'
              go_simp
              with_reducible rfl
            rotate_left
            · simp only [Act.put, List.setIfInBounds_toArray, List.set_cons_zero, List.set_cons_succ, i64_w, i32_w]
              rfl
            refine one_ (i := 10) (N := some 118) #[true, true, true, true, true, true, true, true, true, true, true, false, false, false] rfl rfl (by kernel_rfl) (by decide) (fun K hK => ?_)
            refine value_ (w1 := ?_) (v := ?_) (by rfl) rfl ?_ ?_
            rotate_left 2
            · go_simp
              constructor
              · rfl
              · rfl
            refine hK.out _ _ ⟨(World.cell?_alloc_past _ _ _ hC8.ltQ).trans qv8, (World.cell?_alloc_past _ _ _ hC8.cr.lt).trans hC8.c0⟩ (fun hHeld => ?_)
            clear hK K
            refine norm_ (a' := ?_) ?_ ?_
            rotate_left
            · show Act.put _ (some 118) _ = _
              simp only [Act.put, List.setIfInBounds_toArray, List.set_cons_zero, List.set_cons_succ, i64_w, i32_w]
              rfl
            refine last_ (i := 11) (N := some 119) #[true, true, true, true, true, true, true, true, true, true, true, true, false, false] rfl rfl (by kernel_rfl) (by decide) (fun K hK => ?_)
            refine Kd.R_append_step kAsk (w0 := w8) base (by rfl) (.tmp 109) (.tmp 118) 40 66 (.agg #[.string ⟨#[]⟩, .int .i64 0]) 24 (by rfl) Tryd.underlying40 askInfo (by rfl) (by decide) (by omega) (.slice Av s.p.asks.length cv) s.p.asks (⟨t.v, b.v⟩ : AskV) [.string t.v, .int .i64 b.v] (fun _ => True) (fun _ => False) (by rfl) (by rfl) ?hp ?hokp ?hfresh ?HO ?HB ?hbase ?hl ?_
            case hp => exact ⟨[.string t.v], [.int .i64 b.v], rfl, rfl, rfl⟩
            case hokp => exact fun k hk => hk.elim
            case hfresh => exact fun _ _ => trivial
            case HO => exact hR8
            case HB => exact Below.refl _ _
            case hbase => have := hC8.cr.ge; have := hC8.cr.lt; omega
            case hl => have := HLEN.out.1; have := HLL.out; omega
            intro v1 w9 hq hbl hg hat
            obtain ⟨A1, c1, hev⟩ := Kd.R_slice hq
            obtain ⟨N1, hN1⟩ : ∃ N1, N1 = (s.p.asks ++ [(⟨t.v, b.v⟩ : AskV)]).length := ⟨_, rfl⟩
            rw [← hN1] at hev
            subst hev
            clear hN1
            have hP9 := hC8.pk.appAsks qv8 hR8 hg hq
            have HG := Aside0.mk (hL8.app (s2 := ⟨b.a, b.f, uAsks s.p (s.p.asks ++ [(⟨t.v, b.v⟩ : AskV)])⟩) hR8 hg (by decide) HNE.out.2.2 hP9 rfl rfl)
            obtain ⟨cells8, hQ8⟩ := hC8.pk.self
            have hQ9 := blk_grown hQ8 hg (fun e0 => by obtain ⟨cells9, h9⟩ := (own_is hR8 Q e0).2; rw [hQ8] at h9; injection h9 with h9; injection h9 with _ h9; exact absurd h9 (by decide))
            have qv10 : w9.cell? ⟨Q, 22, none⟩ = some (.slice Av s.p.asks.length cv) := (World.cell?_of_block (a := ⟨Q, 22, none⟩) (hQ9.trans hQ8.symm)).trans qv8
            have qf9 : w9.frozen? ⟨Q, 22, none⟩ = false := blk_frozen hQ9 22
            refine hK.out _ _ ?_
            clear hK K
            refine norm_ (a' := ?_) ?_ ?_
            rotate_left
            · show Act.put _ (some 119) _ = _
              simp only [Act.put, List.setIfInBounds_toArray, List.set_cons_zero, List.set_cons_succ, i64_w, i32_w]
              rfl
            refine pure_ (i := 12) (N := some 120) (v := ?_) (a' := ?_) #[true, true, true, true, true, true, true, true, true, true, true, true, true, false] rfl rfl (by kernel_rfl) (fun _ _ _ h => h) (Or.inl ⟨by rfl, ?_⟩) ?_ ?_
            rotate_left
            · intro w'
              go_simp
              with_reducible rfl
            rotate_left
            · simp only [Act.put, List.setIfInBounds_toArray, List.set_cons_zero, List.set_cons_succ, i64_w, i32_w]
              rfl
            refine last_ (i := 13) (N := none) #[true, true, true, true, true, true, true, true, true, true, true, true, true, true] rfl rfl (by kernel_rfl) (by decide) (fun K hK => ?_)
            refine skip_ (w1 := ?_) (by rfl) rfl ?_ ?_
            rotate_left
            · go_simp
              rfl
            refine hK.out _ _ ?_
            clear hK K
            refine done_ (by kernel_rfl) ?_
            go_wp2
            go_roundg q1
            case measure => exact Nat.lt_succ_self _
            case rel => exact ⟨⟨b.a, b.f, uAsks s.p (s.p.asks ++ [(⟨t.v, b.v⟩ : AskV)])⟩, HG.out, HNX.out, HMM.out, HLEN.out.2⟩
          | false =>
            have HMORE := Aside0.mk hmore
            have hs : s = sF := by
              rw [← hG]
              cases gk with
              | zero => rfl
              | succ q1 => simp only [subG]; rw [if_neg (by rw [hmore]; decide)]
            subst hs
            clear hG hm hlen hmore
            go_wp2_with (go_at_call 36; (with_reducible refine (cn_more HL.out.cn).mono ?_); rintro e w6 ⟨rfl, hC6, hB6⟩; rw [HMORE.out]; have HL6 := Aside0.mk (HL.out.below hB6); clear hC6 hB6 HL)
            go_meet
            case rel => exact ⟨by rw [HR2.out]; exact HL6.out.cn, HL6.out.q0, HL6.out.fr⟩
      · as_aux_lemma =>
        obtain ⟨i, hi⟩ : ∃ i, i = rNum l 0 none := ⟨_, rfl⟩
        obtain ⟨s0, hs0⟩ : ∃ s0 : CS, s0 = ⟨i.a, i.f, uId (pKind 9) i.v⟩ := ⟨_, rfl⟩
        obtain ⟨sF, hsF⟩ : ∃ sF, sF = sacG l n (l.length + 1) s0 := ⟨_, rfl⟩
        have HR2 := Aside0.mk (show r = ⟨sF.a, sF.f, none, sF.p⟩ by
          rw [HR.out, show fFields l 9 fl = (let s := sacG l l.length (l.length + 1) (cId l (pKind 9)); ⟨s.a, s.f, none, s.p⟩) from rfl]
          simp only [hsF, hs0, hi, HN.out, cId])
        have HII := Aside0.mk hi
        have HS0 := Aside0.mk hs0
        have HSF := Aside0.mk hsF
        clear hi hs0 hsF
        go_wp2_with (go_at_call 34; (with_reducible refine (cn_num HC2.out i HII.out).mono ?_); rintro e w5 ⟨rfl, hC, hF⟩; clear c0; have c0 := hC.c0; have qf := hC.pk.free; obtain ⟨o21, q21⟩ := hC.pk.cell 21 (by decide); have HC5 := Aside0.mk (show Cn _ base C B Q l s0.a s0.f n none s0.p by rw [HS0.out]; exact hC.pkt (hC.pk.id i.v)); have HF5 := Aside0.mk (Fr.q3 (Fr.b3 HF0.out hF) 21 (.int .i64 i.v)); clear hC hF)
        have HL0 : Aside0 (SacLp W2 base C B Q w.heap.size l n sF (l.length + 1) (w5.setCell ⟨Q, 21, none⟩ (.int .i64 i.v))) := Aside0.mk (by
          have hx := FieldsAt.of HC2.out (r := ⟨s0.a, s0.f, none, s0.p⟩) HC5.out HF5.out HQ0.out HNE.out.1 HNE.out.2.1 HNE.out.2.2
          exact ⟨s0, ⟨hx.cn, hx.q0, hx.fr⟩, HSF.out.symm, by have := HC5.out.cr.rd.lo; have := HC5.out.cr.rd.hi; unfold mS; split <;> omega, by rw [HS0.out]; simp [uId, pKind, noPkt]⟩)
        clear HC5 HF5 c0 qf q21 HS0 HSF HII HC2 HF0
        go_loopg [] (l.length + 1) (fun q wr => SacLp W2 base C B Q w.heap.size l n sF q wr)
        case atStart => exact HL0.out
        case round =>
          obtain ⟨s, hL, hG, hm, hlen⟩ := hrel
          clear HL0
          have c0 := hL.cn.c0
          have hrd := hL.cn.cr.rd
          have hlo := hrd.lo
          have hhi := hrd.hi
          have hll := hrd.len
          clear hrd
          have HL := Aside0.mk hL
          clear hL
          cases hmore : cMore s.a s.f n none with
          | true =>
            obtain ⟨hfn, han⟩ := cMore_true hmore
            have hm1 : 1 ≤ mS l s := by unfold mS; rw [hfn]; simp
            obtain ⟨q1, rfl⟩ : ∃ q1, gk = q1 + 1 := ⟨gk - 1, by omega⟩
            have HMORE := Aside0.mk hmore
            obtain ⟨b, hb⟩ : ∃ b, b = rByte l s.a s.f := ⟨_, rfl⟩
            have HBB := Aside0.mk hb
            have HNX := Aside0.mk (show sacG l n q1 ⟨b.a, b.f, uCodes s.p (s.p.codes ++ [b.v])⟩ = sF by
              rw [← hG]; simp only [sacG]; rw [if_pos hmore]; simp only [hb])
            have HMM := Aside0.mk (show mS l ⟨b.a, b.f, uCodes s.p (s.p.codes ++ [b.v])⟩ ≤ q1 by
              have e := HN.out
              have h1 := mS_byte1 l s.a s.p (uCodes s.p (s.p.codes ++ [b.v])) hlo (by omega)
              rw [← hfn, ← hb] at h1
              have h3 : mS l ⟨s.a, s.f, s.p⟩ = mS l s := rfl
              omega)
            have HLEN := Aside0.mk (show s.p.codes.length + 1 ≤ l.length + 1 ∧ (s.p.codes ++ [b.v]).length + q1 ≤ l.length + 1 by constructor <;> simp <;> omega)
            have HLL := Aside0.mk hll
            clear hG hm hlen hmore hfn han hm1 hlo hhi hll
            have hbr : 0 ≤ b.v ∧ b.v ≤ 255 := by rw [hb]; exact rByte_range l _ _ HW.out
            obtain ⟨br0, br1⟩ := hbr
            have ebw : wrap64 b.v = b.v := by unfold wrap64; omega
            clear hb
            go_upto_region 31 with (first
              | (go_at_call 36; (with_reducible refine (cn_more HL.out.cn).mono ?_); rintro e w6 ⟨rfl, hC6, hB6⟩; rw [HMORE.out]; clear c0; have c0 := hC6.c0; have HL6 := Aside0.mk (HL.out.below hB6); clear hC6 hB6 HL))
            have HD := Aside0.mk (HL6.out.below (w1 := w6.drew) (below_drew1 (Below.refl _ _)))
            obtain ⟨va, qv, hRa⟩ := HL6.out.cn.pk.codesAt
            have HRA := Aside0.mk hRa
            clear hRa
            obtain ⟨Av, cv, hva⟩ := Kd.R_slice HRA.out
            subst hva
            clear HRA
            refine start_ (n := 12) (S := fun w' => w'.cell? ⟨Q, 23, none⟩ = some (.slice Av s.p.codes.length cv) ∧ w'.cell? ⟨C, 0, none⟩ = some (.pointer (some ⟨B, 0, none⟩))) (ds := [9, 11]) #[false, false, false, false, false, false, false, false, false, false, false, false] (by kernel_rfl) rfl rfl ⟨qv, c0⟩ (fun hHeld => ?_)
            refine pure_ (i := 0) (N := some 129) (v := ?_) (a' := ?_) #[true, false, false, false, false, false, false, false, false, false, false, false] rfl rfl (by kernel_rfl) (fun _ _ _ h => h) (Or.inl ⟨by rfl, ?_⟩) ?_ ?_
            rotate_left
            · intro w'
              go_simp
              with_reducible rfl
            rotate_left
            · simp only [Act.put, List.setIfInBounds_toArray, List.set_cons_zero, List.set_cons_succ, i64_w, i32_w]
              rfl
            refine pure_ (i := 2) (N := some 131) (v := ?_) (a' := ?_) #[true, false, true, false, false, false, false, false, false, false, false, false] rfl rfl (by kernel_rfl) (fun _ _ _ h => h) (Or.inl ⟨by rfl, ?_⟩) ?_ ?_
            rotate_left
            · intro w'
              go_simp
              with_reducible rfl
            rotate_left
            · simp only [Act.put, List.setIfInBounds_toArray, List.set_cons_zero, List.set_cons_succ, i64_w, i32_w]
              rfl
            refine pure_ (i := 3) (N := some 132) (v := ?_) (a' := ?_) #[true, false, true, true, false, false, false, false, false, false, false, false] rfl rfl (by kernel_rfl) (fun _ _ _ h => h) (Or.inl ⟨by rfl, ?_⟩) ?_ ?_
            rotate_left
            · intro w'
              go_simp
              with_reducible rfl
            rotate_left
            · simp only [Act.put, List.setIfInBounds_toArray, List.set_cons_zero, List.set_cons_succ, i64_w, i32_w]
              rfl
            refine pure_ (i := 4) (N := some 133) (v := ?_) (a' := ?_) #[true, false, true, true, true, false, false, false, false, false, false, false] rfl rfl (by kernel_rfl) (fun _ _ _ h => h) (Or.inl ⟨by rfl, ?_⟩) ?_ ?_
            rotate_left
            · intro w'
              go_simp
              with_reducible rfl
            rotate_left
            · simp only [Act.put, List.setIfInBounds_toArray, List.set_cons_zero, List.set_cons_succ, i64_w, i32_w]
              rfl
            refine take_ (i := 1) (N := some 130) (v := ?_) (a' := ?_) #[true, true, true, true, true, false, false, false, false, false, false, false] rfl rfl (by kernel_rfl) (fun _ _ _ h => h) (Or.inl ⟨by rfl, ?_⟩) hHeld ?_ ?_
            rotate_left
            · rintro w' ⟨s0, s1⟩
              go_simp
              with_reducible rfl
            rotate_left
            · simp only [Act.put, List.setIfInBounds_toArray, List.set_cons_zero, List.set_cons_succ, i64_w, i32_w]
              rfl
            refine take_ (i := 5) (N := some 134) (v := ?_) (a' := ?_) #[true, true, true, true, true, true, false, false, false, false, false, false] rfl rfl (by kernel_rfl) (fun _ _ _ h => h) (Or.inl ⟨by rfl, ?_⟩) hHeld ?_ ?_
            rotate_left
            · rintro w' ⟨s0, s1⟩
              go_simp
              with_reducible rfl
            rotate_left
            · simp only [Act.put, List.setIfInBounds_toArray, List.set_cons_zero, List.set_cons_succ, i64_w, i32_w]
              rfl
            refine one_ (i := 6) (N := some 135) #[true, true, true, true, true, true, true, false, false, false, false, false] rfl rfl (by kernel_rfl) (by decide) (fun K hK => ?_)
            refine goes_ Tryd.func30 (by kernel_rfl) rfl #[.pointer (some ⟨B, 0, none⟩)] (by rfl) rfl rfl (by simp only [List.map_toArray, List.map_cons, List.map_nil]; rfl) ?_
            with_reducible refine (cn_byte HD.out.cn b HBB.out).mono ?_
            rintro e w8 ⟨rfl, hC8, hF8⟩
            refine ⟨_, rfl, ?_⟩
            have hL8 := HD.out.b (s2 := ⟨b.a, b.f, s.p⟩) hC8 hF8
            have qv8 : w8.cell? ⟨Q, 23, none⟩ = some (.slice Av s.p.codes.length cv) := (fr_cell hF8 23 HD.out.cn.ltQ HD.out.cn.neB).trans qv
            obtain ⟨va8, qv9, hR8⟩ := hC8.pk.codesAt
            obtain rfl : va8 = .slice Av s.p.codes.length cv := Option.some.inj (qv9.symm.trans qv8)
            refine hK.out _ _ ⟨qv8, hC8.c0⟩ (fun hHeld => ?_)
            clear hK K
            refine norm_ (a' := ?_) ?_ ?_
            rotate_left
            · show Act.put _ (some 135) _ = _
              simp only [Act.put, List.setIfInBounds_toArray, List.set_cons_zero, List.set_cons_succ, i64_w, i32_w]
              rfl
            refine pure_ (i := 7) (N := some 136) (v := ?_) (a' := ?_) #[true, true, true, true, true, true, true, true, false, false, false, false] rfl rfl (by kernel_rfl) (fun _ _ _ h => h) (Or.inl ⟨by rfl, ?_⟩) ?_ ?_
            rotate_left
            · intro w'
              go_simp
              with_reducible rfl
            rotate_left
            · simp only [Act.put, List.setIfInBounds_toArray, List.set_cons_zero, List.set_cons_succ, i64_w, i32_w]
              rfl
            refine one_ (i := 8) (N := some 137) #[true, true, true, true, true, true, true, true, true, false, false, false] rfl rfl (by kernel_rfl) (by decide) (fun K hK => ?_)
            refine value_ (w1 := ?_) (v := ?_) (by rfl) rfl ?_ ?_
            rotate_left 2
            · go_simp
              constructor
              · rfl
              · rfl
            refine hK.out _ _ ⟨(World.cell?_alloc_past _ _ _ hC8.ltQ).trans qv8, (World.cell?_alloc_past _ _ _ hC8.cr.lt).trans hC8.c0⟩ (fun hHeld => ?_)
            clear hK K
            refine norm_ (a' := ?_) ?_ ?_
            rotate_left
            · show Act.put _ (some 137) _ = _
              simp only [Act.put, List.setIfInBounds_toArray, List.set_cons_zero, List.set_cons_succ, i64_w, i32_w]
              rfl
            refine last_ (i := 9) (N := some 138) #[true, true, true, true, true, true, true, true, true, true, false, false] rfl rfl (by kernel_rfl) (by decide) (fun K hK => ?_)
            refine Kd.R_append_step (Kd.int .i64) (w0 := w8) base (by rfl) (.tmp 130) (.tmp 137) 23 3 (.int .i64 0) 8 (by rfl) Tryd.underlying23 intInfo (by rfl) (by decide) (by omega) (.slice Av s.p.codes.length cv) s.p.codes b.v [.int .i64 b.v] (fun _ => True) (fun _ => False) (by rfl) (by rfl) ?hp ?hokp ?hfresh ?HO ?HB ?hbase ?hl ?_
            case hp => exact rfl
            case hokp => exact fun k hk => hk.elim
            case hfresh => exact fun _ _ => trivial
            case HO => exact hR8
            case HB => exact Below.refl _ _
            case hbase => have := hC8.cr.ge; have := hC8.cr.lt; omega
            case hl => have := HLEN.out.1; have := HLL.out; omega
            intro v1 w9 hq hbl hg hat
            obtain ⟨A1, c1, hev⟩ := Kd.R_slice hq
            obtain ⟨N1, hN1⟩ : ∃ N1, N1 = (s.p.codes ++ [b.v]).length := ⟨_, rfl⟩
            rw [← hN1] at hev
            subst hev
            clear hN1
            have hP9 := hC8.pk.appCodes qv8 hR8 hg hq
            have HG := Aside0.mk (hL8.app (s2 := ⟨b.a, b.f, uCodes s.p (s.p.codes ++ [b.v])⟩) hR8 hg (by decide) HNE.out.2.2 hP9 rfl rfl)
            obtain ⟨cells8, hQ8⟩ := hC8.pk.self
            have hQ9 := blk_grown hQ8 hg (fun e0 => by obtain ⟨cells9, h9⟩ := (own_is hR8 Q e0).2; rw [hQ8] at h9; injection h9 with h9; injection h9 with _ h9; exact absurd h9 (by decide))
            have qv10 : w9.cell? ⟨Q, 23, none⟩ = some (.slice Av s.p.codes.length cv) := (World.cell?_of_block (a := ⟨Q, 23, none⟩) (hQ9.trans hQ8.symm)).trans qv8
            have qf9 : w9.frozen? ⟨Q, 23, none⟩ = false := blk_frozen hQ9 23
            refine hK.out _ _ ?_
            clear hK K
            refine norm_ (a' := ?_) ?_ ?_
            rotate_left
            · show Act.put _ (some 138) _ = _
              simp only [Act.put, List.setIfInBounds_toArray, List.set_cons_zero, List.set_cons_succ, i64_w, i32_w]
              rfl
            refine pure_ (i := 10) (N := some 139) (v := ?_) (a' := ?_) #[true, true, true, true, true, true, true, true, true, true, true, false] rfl rfl (by kernel_rfl) (fun _ _ _ h => h) (Or.inl ⟨by rfl, ?_⟩) ?_ ?_
            rotate_left
            · intro w'
              go_simp
              with_reducible rfl
            rotate_left
            · simp only [Act.put, List.setIfInBounds_toArray, List.set_cons_zero, List.set_cons_succ, i64_w, i32_w]
              rfl
            refine last_ (i := 11) (N := none) #[true, true, true, true, true, true, true, true, true, true, true, true] rfl rfl (by kernel_rfl) (by decide) (fun K hK => ?_)
            refine skip_ (w1 := ?_) (by rfl) rfl ?_ ?_
            rotate_left
            · go_simp
              rfl
            refine hK.out _ _ ?_
            clear hK K
            refine done_ (by kernel_rfl) ?_
            go_wp2
            go_roundg q1
            case measure => exact Nat.lt_succ_self _
            case rel => exact ⟨⟨b.a, b.f, uCodes s.p (s.p.codes ++ [b.v])⟩, HG.out, HNX.out, HMM.out, HLEN.out.2⟩
          | false =>
            have HMORE := Aside0.mk hmore
            have hs : s = sF := by
              rw [← hG]
              cases gk with
              | zero => rfl
              | succ q1 => simp only [sacG]; rw [if_neg (by rw [hmore]; decide)]
            subst hs
            clear hG hm hlen hmore
            go_wp2_with (go_at_call 36; (with_reducible refine (cn_more HL.out.cn).mono ?_); rintro e w6 ⟨rfl, hC6, hB6⟩; rw [HMORE.out]; have HL6 := Aside0.mk (HL.out.below hB6); clear hC6 hB6 HL)
            go_meet
            case rel => exact ⟨by rw [HR2.out]; exact HL6.out.cn, HL6.out.q0, HL6.out.fr⟩
      · as_aux_lemma =>
        obtain ⟨i, hi⟩ : ∃ i, i = rNum l 0 none := ⟨_, rfl⟩
        obtain ⟨s0, hs0⟩ : ∃ s0 : CS, s0 = ⟨i.a, i.f, uId (pKind 10) i.v⟩ := ⟨_, rfl⟩
        obtain ⟨sF, hsF⟩ : ∃ sF, sF = unsG l n (l.length + 1) s0 := ⟨_, rfl⟩
        have HR2 := Aside0.mk (show r = ⟨sF.a, sF.f, none, sF.p⟩ by
          rw [HR.out, show fFields l 10 fl = (let s := unsG l l.length (l.length + 1) (cId l (pKind 10)); ⟨s.a, s.f, none, s.p⟩) from rfl]
          simp only [hsF, hs0, hi, HN.out, cId])
        have HII := Aside0.mk hi
        have HS0 := Aside0.mk hs0
        have HSF := Aside0.mk hsF
        clear hi hs0 hsF
        go_wp2_with (go_at_call 34; (with_reducible refine (cn_num HC2.out i HII.out).mono ?_); rintro e w5 ⟨rfl, hC, hF⟩; clear c0; have c0 := hC.c0; have qf := hC.pk.free; obtain ⟨o21, q21⟩ := hC.pk.cell 21 (by decide); have HC5 := Aside0.mk (show Cn _ base C B Q l s0.a s0.f n none s0.p by rw [HS0.out]; exact hC.pkt (hC.pk.id i.v)); have HF5 := Aside0.mk (Fr.q3 (Fr.b3 HF0.out hF) 21 (.int .i64 i.v)); clear hC hF)
        have HL0 : Aside0 (UnsLp W2 base C B Q w.heap.size l n sF (l.length + 1) (w5.setCell ⟨Q, 21, none⟩ (.int .i64 i.v))) := Aside0.mk (by
          have hx := FieldsAt.of HC2.out (r := ⟨s0.a, s0.f, none, s0.p⟩) HC5.out HF5.out HQ0.out HNE.out.1 HNE.out.2.1 HNE.out.2.2
          exact ⟨s0, ⟨hx.cn, hx.q0, hx.fr⟩, HSF.out.symm, by have := HC5.out.cr.rd.lo; have := HC5.out.cr.rd.hi; unfold mS; split <;> omega, by rw [HS0.out]; simp [uId, pKind, noPkt]⟩)
        clear HC5 HF5 c0 qf q21 HS0 HSF HII HC2 HF0
        go_loopg [] (l.length + 1) (fun q wr => UnsLp W2 base C B Q w.heap.size l n sF q wr)
        case atStart => exact HL0.out
        case round =>
          obtain ⟨s, hL, hG, hm, hlen⟩ := hrel
          clear HL0
          have c0 := hL.cn.c0
          have hrd := hL.cn.cr.rd
          have hlo := hrd.lo
          have hhi := hrd.hi
          have hll := hrd.len
          clear hrd
          have HL := Aside0.mk hL
          clear hL
          cases hmore : cMore s.a s.f n none with
          | true =>
            obtain ⟨hfn, han⟩ := cMore_true hmore
            have hm1 : 1 ≤ mS l s := by unfold mS; rw [hfn]; simp
            obtain ⟨q1, rfl⟩ : ∃ q1, gk = q1 + 1 := ⟨gk - 1, by omega⟩
            have HMORE := Aside0.mk hmore
            obtain ⟨b, hb⟩ : ∃ b, b = rText l s.a s.f := ⟨_, rfl⟩
            have HBB := Aside0.mk hb
            have HNX := Aside0.mk (show unsG l n q1 ⟨b.a, b.f, uFilters s.p (s.p.filters ++ [b.v])⟩ = sF by
              rw [← hG]; simp only [unsG]; rw [if_pos hmore]; simp only [hb])
            have HMM := Aside0.mk (show mS l ⟨b.a, b.f, uFilters s.p (s.p.filters ++ [b.v])⟩ ≤ q1 by
              have e := HN.out
              have h1 := mS_text l s.a s.p (uFilters s.p (s.p.filters ++ [b.v])) HW.out hlo (by omega)
              rw [← hfn, ← hb] at h1
              have h3 : mS l ⟨s.a, s.f, s.p⟩ = mS l s := rfl
              omega)
            have HLEN := Aside0.mk (show s.p.filters.length + 1 ≤ l.length + 1 ∧ (s.p.filters ++ [b.v]).length + q1 ≤ l.length + 1 by constructor <;> simp <;> omega)
            have HLL := Aside0.mk hll
            clear hG hm hlen hmore hfn han hm1 hlo hhi hll
            clear hb
            go_upto_region 34 with (first
              | (go_at_call 36; (with_reducible refine (cn_more HL.out.cn).mono ?_); rintro e w6 ⟨rfl, hC6, hB6⟩; rw [HMORE.out]; clear c0; have c0 := hC6.c0; have HL6 := Aside0.mk (HL.out.below hB6); clear hC6 hB6 HL))
            have HD := Aside0.mk (HL6.out.below (w1 := w6.drew) (below_drew1 (Below.refl _ _)))
            obtain ⟨va, qv, hRa⟩ := HL6.out.cn.pk.filtersAt
            have HRA := Aside0.mk hRa
            clear hRa
            obtain ⟨Av, cv, hva⟩ := Kd.R_slice HRA.out
            subst hva
            clear HRA
            refine start_ (n := 11) (S := fun w' => w'.cell? ⟨Q, 24, none⟩ = some (.slice Av s.p.filters.length cv) ∧ w'.cell? ⟨C, 0, none⟩ = some (.pointer (some ⟨B, 0, none⟩))) (ds := [8, 10]) #[false, false, false, false, false, false, false, false, false, false, false] (by kernel_rfl) rfl rfl ⟨qv, c0⟩ (fun hHeld => ?_)
            refine pure_ (i := 0) (N := some 148) (v := ?_) (a' := ?_) #[true, false, false, false, false, false, false, false, false, false, false] rfl rfl (by kernel_rfl) (fun _ _ _ h => h) (Or.inl ⟨by rfl, ?_⟩) ?_ ?_
            rotate_left
            · intro w'
              go_simp
              with_reducible rfl
            rotate_left
            · simp only [Act.put, List.setIfInBounds_toArray, List.set_cons_zero, List.set_cons_succ, i64_w, i32_w]
              rfl
            refine pure_ (i := 2) (N := some 150) (v := ?_) (a' := ?_) #[true, false, true, false, false, false, false, false, false, false, false] rfl rfl (by kernel_rfl) (fun _ _ _ h => h) (Or.inl ⟨by rfl, ?_⟩) ?_ ?_
            rotate_left
            · intro w'
              go_simp
              with_reducible rfl
            rotate_left
            · simp only [Act.put, List.setIfInBounds_toArray, List.set_cons_zero, List.set_cons_succ, i64_w, i32_w]
              rfl
            refine pure_ (i := 3) (N := some 151) (v := ?_) (a' := ?_) #[true, false, true, true, false, false, false, false, false, false, false] rfl rfl (by kernel_rfl) (fun _ _ _ h => h) (Or.inl ⟨by rfl, ?_⟩) ?_ ?_
            rotate_left
            · intro w'
              go_simp
              with_reducible rfl
            rotate_left
            · simp only [Act.put, List.setIfInBounds_toArray, List.set_cons_zero, List.set_cons_succ, i64_w, i32_w]
              rfl
            refine pure_ (i := 4) (N := some 152) (v := ?_) (a' := ?_) #[true, false, true, true, true, false, false, false, false, false, false] rfl rfl (by kernel_rfl) (fun _ _ _ h => h) (Or.inl ⟨by rfl, ?_⟩) ?_ ?_
            rotate_left
            · intro w'
              go_simp
              with_reducible rfl
            rotate_left
            · simp only [Act.put, List.setIfInBounds_toArray, List.set_cons_zero, List.set_cons_succ, i64_w, i32_w]
              rfl
            refine take_ (i := 1) (N := some 149) (v := ?_) (a' := ?_) #[true, true, true, true, true, false, false, false, false, false, false] rfl rfl (by kernel_rfl) (fun _ _ _ h => h) (Or.inl ⟨by rfl, ?_⟩) hHeld ?_ ?_
            rotate_left
            · rintro w' ⟨s0, s1⟩
              go_simp
              with_reducible rfl
            rotate_left
            · simp only [Act.put, List.setIfInBounds_toArray, List.set_cons_zero, List.set_cons_succ, i64_w, i32_w]
              rfl
            refine take_ (i := 5) (N := some 153) (v := ?_) (a' := ?_) #[true, true, true, true, true, true, false, false, false, false, false] rfl rfl (by kernel_rfl) (fun _ _ _ h => h) (Or.inl ⟨by rfl, ?_⟩) hHeld ?_ ?_
            rotate_left
            · rintro w' ⟨s0, s1⟩
              go_simp
              with_reducible rfl
            rotate_left
            · simp only [Act.put, List.setIfInBounds_toArray, List.set_cons_zero, List.set_cons_succ, i64_w, i32_w]
              rfl
            refine one_ (i := 6) (N := some 154) #[true, true, true, true, true, true, true, false, false, false, false] rfl rfl (by kernel_rfl) (by decide) (fun K hK => ?_)
            refine goes_ Tryd.func33 (by kernel_rfl) rfl #[.pointer (some ⟨B, 0, none⟩)] (by rfl) rfl rfl (by simp only [List.map_toArray, List.map_cons, List.map_nil]; rfl) ?_
            with_reducible refine (cn_text HD.out.cn b HBB.out).mono ?_
            rintro e w8 ⟨rfl, hC8, hF8⟩
            refine ⟨_, rfl, ?_⟩
            have hL8 := HD.out.b (s2 := ⟨b.a, b.f, s.p⟩) hC8 hF8
            have qv8 : w8.cell? ⟨Q, 24, none⟩ = some (.slice Av s.p.filters.length cv) := (fr_cell hF8 24 HD.out.cn.ltQ HD.out.cn.neB).trans qv
            obtain ⟨va8, qv9, hR8⟩ := hC8.pk.filtersAt
            obtain rfl : va8 = .slice Av s.p.filters.length cv := Option.some.inj (qv9.symm.trans qv8)
            refine hK.out _ _ ⟨qv8, hC8.c0⟩ (fun hHeld => ?_)
            clear hK K
            refine norm_ (a' := ?_) ?_ ?_
            rotate_left
            · show Act.put _ (some 154) _ = _
              simp only [Act.put, List.setIfInBounds_toArray, List.set_cons_zero, List.set_cons_succ, i64_w, i32_w]
              rfl
            refine one_ (i := 7) (N := some 155) #[true, true, true, true, true, true, true, true, false, false, false] rfl rfl (by kernel_rfl) (by decide) (fun K hK => ?_)
            refine value_ (w1 := ?_) (v := ?_) (by rfl) rfl ?_ ?_
            rotate_left 2
            · go_simp
              constructor
              · rfl
              · rfl
            refine hK.out _ _ ⟨(World.cell?_alloc_past _ _ _ hC8.ltQ).trans qv8, (World.cell?_alloc_past _ _ _ hC8.cr.lt).trans hC8.c0⟩ (fun hHeld => ?_)
            clear hK K
            refine norm_ (a' := ?_) ?_ ?_
            rotate_left
            · show Act.put _ (some 155) _ = _
              simp only [Act.put, List.setIfInBounds_toArray, List.set_cons_zero, List.set_cons_succ, i64_w, i32_w]
              rfl
            refine last_ (i := 8) (N := some 156) #[true, true, true, true, true, true, true, true, true, false, false] rfl rfl (by kernel_rfl) (by decide) (fun K hK => ?_)
            refine Kd.R_append_step Kd.string (w0 := w8) base (by rfl) (.tmp 149) (.tmp 155) 41 9 (.string ⟨#[]⟩) 16 (by rfl) Tryd.underlying41 strInfo (by rfl) (by decide) (by omega) (.slice Av s.p.filters.length cv) s.p.filters b.v [.string b.v] (fun _ => True) (fun _ => False) (by rfl) (by rfl) ?hp ?hokp ?hfresh ?HO ?HB ?hbase ?hl ?_
            case hp => exact rfl
            case hokp => exact fun k hk => hk.elim
            case hfresh => exact fun _ _ => trivial
            case HO => exact hR8
            case HB => exact Below.refl _ _
            case hbase => have := hC8.cr.ge; have := hC8.cr.lt; omega
            case hl => have := HLEN.out.1; have := HLL.out; omega
            intro v1 w9 hq hbl hg hat
            obtain ⟨A1, c1, hev⟩ := Kd.R_slice hq
            obtain ⟨N1, hN1⟩ : ∃ N1, N1 = (s.p.filters ++ [b.v]).length := ⟨_, rfl⟩
            rw [← hN1] at hev
            subst hev
            clear hN1
            have hP9 := hC8.pk.appFilters qv8 hR8 hg hq
            have HG := Aside0.mk (hL8.app (s2 := ⟨b.a, b.f, uFilters s.p (s.p.filters ++ [b.v])⟩) hR8 hg (by decide) HNE.out.2.2 hP9 rfl rfl)
            obtain ⟨cells8, hQ8⟩ := hC8.pk.self
            have hQ9 := blk_grown hQ8 hg (fun e0 => by obtain ⟨cells9, h9⟩ := (own_is hR8 Q e0).2; rw [hQ8] at h9; injection h9 with h9; injection h9 with _ h9; exact absurd h9 (by decide))
            have qv10 : w9.cell? ⟨Q, 24, none⟩ = some (.slice Av s.p.filters.length cv) := (World.cell?_of_block (a := ⟨Q, 24, none⟩) (hQ9.trans hQ8.symm)).trans qv8
            have qf9 : w9.frozen? ⟨Q, 24, none⟩ = false := blk_frozen hQ9 24
            refine hK.out _ _ ?_
            clear hK K
            refine norm_ (a' := ?_) ?_ ?_
            rotate_left
            · show Act.put _ (some 156) _ = _
              simp only [Act.put, List.setIfInBounds_toArray, List.set_cons_zero, List.set_cons_succ, i64_w, i32_w]
              rfl
            refine pure_ (i := 9) (N := some 157) (v := ?_) (a' := ?_) #[true, true, true, true, true, true, true, true, true, true, false] rfl rfl (by kernel_rfl) (fun _ _ _ h => h) (Or.inl ⟨by rfl, ?_⟩) ?_ ?_
            rotate_left
            · intro w'
              go_simp
              with_reducible rfl
            rotate_left
            · simp only [Act.put, List.setIfInBounds_toArray, List.set_cons_zero, List.set_cons_succ, i64_w, i32_w]
              rfl
            refine last_ (i := 10) (N := none) #[true, true, true, true, true, true, true, true, true, true, true] rfl rfl (by kernel_rfl) (by decide) (fun K hK => ?_)
            refine skip_ (w1 := ?_) (by rfl) rfl ?_ ?_
            rotate_left
            · go_simp
              rfl
            refine hK.out _ _ ?_
            clear hK K
            refine done_ (by kernel_rfl) ?_
            go_wp2
            go_roundg q1
            case measure => exact Nat.lt_succ_self _
            case rel => exact ⟨⟨b.a, b.f, uFilters s.p (s.p.filters ++ [b.v])⟩, HG.out, HNX.out, HMM.out, HLEN.out.2⟩
          | false =>
            have HMORE := Aside0.mk hmore
            have hs : s = sF := by
              rw [← hG]
              cases gk with
              | zero => rfl
              | succ q1 => simp only [unsG]; rw [if_neg (by rw [hmore]; decide)]
            subst hs
            clear hG hm hlen hmore
            go_wp2_with (go_at_call 36; (with_reducible refine (cn_more HL.out.cn).mono ?_); rintro e w6 ⟨rfl, hC6, hB6⟩; rw [HMORE.out]; have HL6 := Aside0.mk (HL.out.below hB6); clear hC6 hB6 HL)
            go_meet
            case rel => exact ⟨by rw [HR2.out]; exact HL6.out.cn, HL6.out.q0, HL6.out.fr⟩
      · as_aux_lemma =>
        obtain ⟨i, hi⟩ : ∃ i, i = rNum l 0 none := ⟨_, rfl⟩
        obtain ⟨e1, he1⟩ : ∃ e1, e1 = rEnd l i.a i.f := ⟨_, rfl⟩
        have HR2 := Aside0.mk (show r = ⟨i.a, e1, none, uId (pKind k) i.v⟩ by
          rw [HR.out]
          unfold fFields
          rw [if_neg (by omega), if_neg (by omega), if_neg (by omega), if_neg (by omega), if_neg (by omega), if_neg (by omega), if_pos hk]
          simp only [cId, he1, hi])
        have HII := Aside0.mk hi
        have HEE := Aside0.mk he1
        clear hi he1
        rcases hk with rfl | rfl | rfl | rfl | rfl
        all_goals
          go_wp2_with (first
            | (go_at_call 34; (with_reducible refine (cn_num HC2.out i HII.out).mono ?_); rintro e w5 ⟨rfl, hC, hF⟩; clear c0; have c0 := hC.c0; have qf := hC.pk.free; obtain ⟨o21, q21⟩ := hC.pk.cell 21 (by decide); have HC5 := Aside0.mk (hC.pkt (hC.pk.id i.v)); have HF5 := Aside0.mk (Fr.q3 (Fr.b3 HF0.out hF) 21 (.int .i64 i.v)); clear hC hF)
            | (go_at_call 32; (with_reducible refine (cn_end HC5.out e1 HEE.out).mono ?_); rintro e w6 ⟨rfl, hC, hF⟩; have HC6 := Aside0.mk hC; have HF6 := Aside0.mk (Fr.b3 HF5.out hF); clear hC hF))
          go_meet
          case rel => exact FieldsAt.of HC2.out (by rw [HR2.out]; exact HC6.out) HF6.out HQ0.out HNE.out.1 HNE.out.2.1 HNE.out.2.2
      · as_aux_lemma =>
        obtain ⟨e1, he1⟩ : ∃ e1, e1 = rEnd l 0 none := ⟨_, rfl⟩
        have HR2 := Aside0.mk (show r = ⟨0, e1, none, pKind k⟩ by
          rw [HR.out]
          unfold fFields
          rw [if_neg (by omega), if_neg (by omega), if_neg (by omega), if_neg (by omega), if_neg (by omega), if_neg (by omega), if_neg (by omega)]
          simp only [he1])
        have HEE := Aside0.mk he1
        clear he1
        rcases hk with rfl | rfl | rfl
        all_goals
          go_wp2_with (go_at_call 32; (with_reducible refine (cn_end HC2.out e1 HEE.out).mono ?_); rintro e w6 ⟨rfl, hC, hF⟩; have HC6 := Aside0.mk hC; have HF6 := Aside0.mk (Fr.b3 HF0.out hF); clear hC hF)
          go_meet
          case rel => exact FieldsAt.of HC2.out (by rw [HR2.out]; exact HC6.out) HF6.out HQ0.out HNE.out.1 HNE.out.2.1 HNE.out.2.2
    case rest =>
      obtain ⟨hC, hq0, hF⟩ := hcut
      obtain ⟨vw, vp, vm, va, vc, vf, hQr, hw, hp, hm, ha, hc, hf⟩ := hC.pk.ex
      have hM := pkt_M_mk hw hp hm ha hc hf
      have hsz : (pktCells r.p vw vp vm va vc vf).toArray.size = 25 := rfl
      obtain ⟨cs, hcs⟩ : ∃ cs, cs = pktCells r.p vw vp vm va vc vf := ⟨_, rfl⟩
      rw [← hcs] at hM hQr hsz
      have hone : cs.toArray.all (·.oneCell') = true := by
        rw [Array.all_eq_true_iff_forall_mem]
        intro u hu
        exact kPkt.K_one (kPkt.K_of_M hM) u (by simpa using hu)
      have HM := Aside0.mk hM
      have HC := Aside0.mk hC
      have HF := Aside0.mk hF
      have HQ1 := Aside0.mk hq0
      have HQR := Aside0.mk hQr
      have HSZ := Aside0.mk (show (Tryd.prog.info? 43).map (·.size) = some cs.toArray.size by rw [hsz]; exact pktSize)
      have HS2 := Aside0.mk (show noCells.size = cs.toArray.size by rw [hsz]; rfl)
      have HONE := Aside0.mk hone
      clear hC hF hQr hw hp hm ha hc hf hM hcs hone hq0 hsz HC2
      go_wp2_with (first
        | (refine wpList_load_row rfl 43 _ rfl Q rfl 43 _ (0, 0) _ HQR.out Tryd.underlying43 rfl HSZ.out ?_)
        | (refine wpList_store_row rfl 43 _ _ rfl w.heap.size _ rfl rfl 43 _ HQ1.out HSZ.out HS2.out HONE.out ?_))
      refine bodyPost_ret (results_block Tryd.results20 rfl (setRow_block HQ1.out) Tryd.underlying43 rfl HSZ.out) rfl ⟨cs, rfl, ?_, ?_, ?_⟩
      · refine M_frT HM.out (setRow_fr wc _ _) (fun k hk e => ⟨_, _, e ▸ HQ1.out, by decide⟩)
      · exact HC.out.cr.fr (setRow_fr wc _ _) (fun k hk e => ⟨_, _, e ▸ HQ1.out, by decide, by decide, by decide, by decide⟩)
      · have h1 : Fr (okP w base w.heap.size) w W2 := Fr.of_below _ HB2.out
        refine (h1.trans HF.out (fun k hk e => ⟨e.1, .inr fun cells ec => ?_⟩)).trans (setRow_fr wc _ _) (fun k hk e => by omega)
        rcases e.2 with e2 | e2
        · rw [HQ.out] at e2; omega
        · exact e2 cells ((HB2.out.block k hk).trans ec)
end Go.Proofs.YthlbcgaegaoanaaDoor.Cr

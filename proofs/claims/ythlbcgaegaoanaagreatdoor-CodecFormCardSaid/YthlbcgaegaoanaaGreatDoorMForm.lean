/- CodecForm's walk: what is taken is right, and written no longer. No statement of the program. -/
import Derived.Test.YthlbcgaegaoanaaGreatDoorMFirm
import Derived.Test.YthlbcgaegaoanaaGreatDoorMFormL
namespace Go.Proofs.YthlbcgaegaoanaaGreatDoor.Cr
open Go Go.RowKit Go.Proofs.YthlbcgaegaoanaaGreatDoorW.PrintWords Go.Proofs.YthlbcgaegaoanaaGreatDoorW.PrintLast Go.Proofs.YthlbcgaegaoanaaGreatDoorW.PrintMore Go.Proofs.YthlbcgaegaoanaaGreatDoor.Kinds Go.Proofs.YthlbcgaegaoanaaGreatDoor.Utf Go.Proofs.YthlbcgaegaoanaaGreatDoor.Chk Go.Proofs.YthlbcgaegaoanaaGreatDoor.Rdr
set_option linter.unusedVariables false
set_option linter.unusedSimpArgs false
theorem noPkt_K (w : World) : kPkt.K w noPkt noCells.toList := by
  have h := pkt_K_mk (w := w) (p := noPkt) (Aw := none) (Ap := none) (Am := none) (Aa := none) (Ac := none) (Af := none) (nw := 0) (np := 0) (nm := 0) (na := 0) (nc := 0) (nf := 0) ⟨Nat.le_refl _, Kd.C_nil _ _⟩ ⟨Nat.le_refl _, Kd.C_nil _ _⟩ ⟨Nat.le_refl _, Kd.C_nil _ _⟩ ⟨Nat.le_refl _, Kd.C_nil _ _⟩ ⟨Nat.le_refl _, Kd.C_nil _ _⟩ ⟨Nat.le_refl _, Kd.C_nil _ _⟩
  exact h
theorem same_none (cs : List Value) (w : World) (h : kPkt.K w noPkt cs) : Calls Tryz.prog 26 #[.agg cs.toArray, .agg noCells] w fun e w' => e = .returned (.bool true) ∧ Below w.heap.size w w' :=
  same_any noPkt cs noCells.toList w h (noPkt_K w)
set_option maxRecDepth 100000 in
set_option maxHeartbeats 4000000 in
theorem form_any {w : World} (hg : Gl w) (b : List Int) (top : Int) (A : Option Addr) (n c : Nat) (hn : n = b.length) (hlc : b.length ≤ c) (hr : (Kd.int .u8).C w A b.length b) (hb : Bytes b) :
    Calls Tryz.prog 8 #[.slice A n c, .int .i64 top] w fun e w' => e = .returned (.bool true) ∧ Below w.heap.size w w' := by
  subst hn
  have HG := Aside0.mk hg
  have HRB := Aside0.mk hr
  have HBB := Aside0.mk hb
  have HCC := Aside0.mk hlc
  clear hg hr hb hlc
  go_enter Tryz.func8, Tryz.ntmps8
  go_upto_region 3 with (go_at_call 24; (with_reducible refine (known3_any HG.out).mono ?_); rintro e w1 ⟨rfl, hB⟩; have HB := Aside0.mk hB; clear hB)
  by_cases hlen : 150000 < b.length
  · have t1 : decide (150000 < (b.length : Int)) = true := decide_eq_true (by omega)
    clear hlen
    go_wp2
    go_ret
    exact ⟨rfl, HB.out⟩
  · have t1 : decide (150000 < (b.length : Int)) = false := decide_eq_false (by omega)
    have HL := Aside0.mk (show b.length ≤ 150000 by omega)
    clear hlen
    obtain ⟨r, hr⟩ : ∃ r, decP b top = r := ⟨_, rfl⟩
    have HRR := Aside0.mk hr
    have HG1 := Aside0.mk (HG.out.below HB.out HG.out.sz HB.out.size)
    clear hr
    go_upto_region 6 with (first
      | (go_at_call 25; (with_reducible refine (decode_len HG1.out b top A _ c rfl HCC.out (Kd.C_below HRB.out HB.out) HBB.out (Nat.le_trans HL.out (by decide)) r HRR.out).mono ?_); rintro e w3 ⟨cs3, ev3, rfl, hM, hE, hB⟩; have HE3 := Aside0.mk hE; have HM3 := Aside0.mk (And.intro hM (pk_open hM)); have HB3 := Aside0.mk hB; clear hM hB hE; dsimp only)
      | (refine wpList_store_row rfl 38 _ _ rfl w3.heap.size _ rfl rfl 38 _ (heap_alloc_new w3 (.cells noCells 38)) HM3.out.2.1 HM3.out.2.2.1 HM3.out.2.2.2.1 ?_))
    obtain ⟨G, hG⟩ : ∃ G, G = w3.heap.size := ⟨_, rfl⟩
    obtain ⟨W5, hW5⟩ : ∃ W : World, W = (w3.alloc (.cells noCells 38)).setRow w3.heap.size cs3.toArray := ⟨_, rfl⟩
    have hn3 := pk_new w3 cs3
    rw [← hW5] at hn3
    have HBK5 := Aside0.mk (show W5.heap[G]? = some (.cells cs3.toArray 38 (0, 0)) by rw [hG]; exact hn3.1)
    have HB5 := Aside0.mk (show Below w.heap.size w W5 from HB.out.trans ((HB3.out.trans (hn3.2.mono HB3.out.size)).mono HB.out.size))
    have HM5 := Aside0.mk (Kd.M_below HM3.out.1 hn3.2)
    have HEV := Aside0.mk HE3.out
    refine wp_wld (w2 := W5) (by rw [hW5]; rfl) ?_
    rw [← hG]
    have HG5 := Aside0.mk (HG.out.below HB5.out HG.out.sz HB5.out.size)
    have HK5 := Aside0.mk (kPkt.K_of_M HM5.out)
    have HSA := Aside0.mk (pkt_szA HK5.out)
    have HSL := Aside0.mk (pkt_szL HK5.out)
    have HRG := Aside0.mk (pkt_range HBK5.out)
    clear hG hW5 hn3 HB3 HE3 HM3 HM5
    by_cases hn0 : r.n = 0
    · have hp := decP_pkt b top (by rw [HRR.out]; exact hn0) (fun i => HBB.out.at_ i)
      rw [HRR.out] at hp
      have HKN := Aside0.mk (show kPkt.K W5 noPkt cs3 by rw [← hp]; exact HK5.out)
      have tn : (r.n == 0) = true := by simp [hn0]
      have hev : ev3 = .nilIface ∨ ∃ F, ev3 = .iface 108 (.pointer (some ⟨F, 0, none⟩)) := by
        have h := HEV.out
        cases hf : r.f with
        | none => rw [hf] at h; exact .inl h
        | some q =>
          rw [hf] at h
          obtain ⟨F, h1, _⟩ := h
          exact .inr ⟨F, h1⟩
      clear HEV hp hn0
      rcases hev with rfl | ⟨F, rfl⟩
      all_goals
        go_wp2_with (first
          | (refine wpList_load_row rfl 38 _ rfl G rfl 38 _ (0, 0) _ HBK5.out Tryz.underlying38 rfl HSA.out ?_)
          | (go_at_call 26; (refine (same_none cs3 W5 HKN.out).mono ?_); rintro e w8 ⟨rfl, hB⟩; have HB8 := Aside0.mk hB; clear hB))
        go_ret
        exact ⟨rfl, HB5.out.trans (HB8.out.mono HB5.out.size)⟩
    · have htook := decP_took b top (fun i => HBB.out.at_ i) (by rw [HRR.out]; exact hn0)
      have hform := form_law HBB.out (top := top) (by rw [HRR.out]; exact hn0)
      have hPB := decP_PB HBB.out top (by rw [HRR.out]; exact hn0)
      rw [HRR.out] at htook hform hPB
      obtain ⟨k1, k2, k3, k4⟩ := htook
      have hev : ev3 = .nilIface := by have h := HEV.out; rw [k1] at h; exact h
      subst hev
      have hR := pchk_right k4
      have hsz := right_sizes hR
      have htop : topP top ≤ 268435455 := by unfold topP; omega
      have HSZ := Aside0.mk (show r.p.asks.length ≤ 1099511627776 ∧ r.p.filters.length ≤ 1099511627776 ∧ r.p.codes.length ≤ 1099511627776 ∧ r.p.msg.payload.length ≤ 1099511627776 by have := hform.2; omega)
      have hde := dec_enc k4 (by have := hform.2; omega) [] top
      rw [if_neg (by have := hform.2; omega), List.append_nil] at hde
      have HDE := Aside0.mk hde
      have HEB := Aside0.mk (encE_bytes hR hPB)
      have tn : (r.n == 0) = false := by simpa using hn0
      have tn2 : decide (r.n < 2) = false := decide_eq_false (by omega)
      have tn3 : decide ((b.length : Int) < r.n) = false := decide_eq_false (by omega)
      have tn4 : decide (r.n > (b.length : Int)) = false := decide_eq_false (by omega)
      obtain ⟨L, hL⟩ : ∃ L, L = encE r.p := ⟨_, rfl⟩
      have HLL := Aside0.mk hL
      have tle : decide ((L.length : Int) ≤ r.n) = true := decide_eq_true (by rw [hL]; exact hform.1)
      have HLE := Aside0.mk (show L.length ≤ 1099511627770 by have := hform.1; rw [← hL] at this; have := HL.out; omega)
      have HPC := Aside0.mk k4
      clear hn0 k1 k2 k3 k4 hform hPB hR hsz htop hde hL HEV
      go_upto_region 10 with (first
        | (refine wpList_load_midF (by rfl) 38 (.tmp 5) rfl G 0 rfl cs3 _ HRG.out Tryz.underlying38 rfl HSL.out ?_)
        | (go_at_call 28; (with_reducible refine (pcheck_any HG5.out r.p cs3 HK5.out HSZ.out.1 HSZ.out.2.1 HSZ.out.2.2.1).mono ?_); rintro e w6 ⟨rfl, hB⟩; rw [HPC.out]; have HB6 := Aside0.mk hB; clear hB)
        | (go_at_call 27; (with_reducible refine (num_any 0 _).mono ?_); rintro e w7 ⟨rfl, rfl⟩))
      all_goals
        have HBK6 := Aside0.mk ((HB6.out.block _ (blk_lt HBK5.out)).trans HBK5.out)
        have HK6 := Aside0.mk (kPkt.K_below HB6.out HK5.out)
        have HG6 := Aside0.mk (HG5.out.below HB6.out HG5.out.sz HB6.out.size)
        clear HBK5 HK5 HG5 HRG
        go_upto_region 11 with (first
          | (refine wpList_load_row rfl 38 _ rfl G rfl 38 _ (0, 0) _ HBK6.out Tryz.underlying38 rfl HSA.out ?_)
          | (go_at_call 29; (with_reducible refine (encode_any HG6.out r.p cs3 HK6.out HSZ.out.1 HSZ.out.2.1 HSZ.out.2.2.1 HSZ.out.2.2.2).mono ?_); rintro e w8 ⟨v8, rfl, hR8, hB8⟩; rw [HPC.out, if_pos rfl, ← HLL.out] at hR8; rw [HPC.out]; obtain ⟨A8, c8, hv8, hc8, hC8⟩ := Kd.R_reads hR8; subst hv8; have HC8 := Aside0.mk (And.intro hc8 hC8); have HB8 := Aside0.mk hB8; clear hR8 hB8 hc8 hC8; dsimp only))
      all_goals
        have HDE8 := Aside0.mk (show decP L top = ⟨r.p, (L.length : Int), none⟩ by rw [HLL.out]; exact HDE.out)
        have HEB8 := Aside0.mk (show Bytes L by rw [HLL.out]; exact HEB.out)
        have HG8 := Aside0.mk (HG6.out.below HB8.out HG6.out.sz HB8.out.size)
        have HBK8 := Aside0.mk ((HB8.out.block _ (blk_lt HBK6.out)).trans HBK6.out)
        have HK8 := Aside0.mk (kPkt.K_below HB8.out HK6.out)
        have HB58 := Aside0.mk (HB6.out.trans (HB8.out.mono HB6.out.size))
        clear HBK6 HK6 HG6
        go_upto_region 12 with (first
          | (go_at_call 25; (with_reducible refine (decode_len HG8.out L top A8 _ c8 rfl HC8.out.1 HC8.out.2 HEB8.out HLE.out _ HDE8.out).mono ?_); rintro e w9 ⟨cs9, ev9, rfl, hM, hE, hB⟩; obtain rfl : ev9 = .nilIface := hE; have HM9 := Aside0.mk (And.intro hM (pk_open hM)); have HB9 := Aside0.mk hB; clear hM hB; dsimp only)
          | (refine wpList_store_row rfl 38 _ _ rfl w9.heap.size _ rfl rfl 38 _ (heap_alloc_new w9 (.cells noCells 38)) HM9.out.2.1 HM9.out.2.2.1 HM9.out.2.2.2.1 ?_))
        obtain ⟨G2, hG2⟩ : ∃ G, G = w9.heap.size := ⟨_, rfl⟩
        obtain ⟨Wa, hWa⟩ : ∃ W : World, W = (w9.alloc (.cells noCells 38)).setRow w9.heap.size cs9.toArray := ⟨_, rfl⟩
        have hn9 := pk_new w9 cs9
        rw [← hWa] at hn9
        have h8a : Below w8.heap.size w8 Wa := HB9.out.trans (hn9.2.mono HB9.out.size)
        have HR1 := Aside0.mk (pkt_range ((h8a.block _ (blk_lt HBK8.out)).trans HBK8.out))
        have HR2 := Aside0.mk (pkt_range (show Wa.heap[G2]? = some (.cells cs9.toArray 38 (0, 0)) by rw [hG2]; exact hn9.1))
        have HK1 := Aside0.mk (kPkt.K_below h8a HK8.out)
        have HK2 := Aside0.mk (kPkt.K_of_M (Kd.M_below HM9.out.1 hn9.2))
        have HZ2 := Aside0.mk (pkt_szL HK2.out)
        have HBa := Aside0.mk (show Below w.heap.size w Wa from HB5.out.trans ((HB58.out.trans (h8a.mono HB58.out.size)).mono HB5.out.size))
        refine wp_wld (w2 := Wa) (by rw [hWa]; rfl) ?_
        rw [← hG2]
        clear hG2 hWa hn9 h8a HB9 HM9 HBK8 HK8 HC8 HB8
        go_wp2_with (first
          | (refine wpList_load_midF (by rfl) 38 (.tmp 5) rfl G 0 rfl cs3 _ HR1.out Tryz.underlying38 rfl HSL.out ?_)
          | (refine wpList_load_midF (by rfl) 38 (.tmp 10) rfl G2 0 rfl cs9 _ HR2.out Tryz.underlying38 rfl HZ2.out ?_)
          | (go_at_call 27; (with_reducible refine (num_any 0 _).mono ?_); rintro e w7 ⟨rfl, rfl⟩)
          | (go_at_call 26; (with_reducible refine (same_any r.p cs3 cs9 Wa HK1.out HK2.out).mono ?_); rintro e wd ⟨rfl, hB⟩; have HBd := Aside0.mk hB; clear hB))
        go_ret
        exact ⟨rfl, HBa.out.trans (HBd.out.mono HBa.out.size)⟩
end Go.Proofs.YthlbcgaegaoanaaGreatDoor.Cr

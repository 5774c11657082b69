/- crierref2.Same of two packets that read alike; crierlaw14.sameInputs. No statement of the program. -/
import Derived.Test.YthlbcgaegaoanaaDoorMFilt
import Derived.Test.YthlbcgaegaoanaaDoorMForeign
import Derived.Test.YthlbcgaegaoanaaDoorMW
import Derived.Deep.DeepCutAuto
import Derived.BigQuiet
namespace Go.Proofs.YthlbcgaegaoanaaDoor.Cr
open Go Go.RowKit Go.Proofs.YthlbcgaegaoanaaDoorW.PrintWords Go.Proofs.YthlbcgaegaoanaaDoorW.PrintLast Go.Proofs.YthlbcgaegaoanaaDoorW.PrintMore Go.Proofs.YthlbcgaegaoanaaDoor.Kinds Go.Proofs.YthlbcgaegaoanaaDoor.Utf Go.Proofs.YthlbcgaegaoanaaDoor.Chk Go.Proofs.YthlbcgaegaoanaaDoor.Rdr
set_option linter.unusedVariables false
set_option linter.unusedSimpArgs false
theorem alloc_new1 (w : World) (o1 o2 : Obj) : ((w.alloc o1).alloc o2).heap[w.heap.size]? = some o1 := by
  rw [show ((w.alloc o1).alloc o2).heap[w.heap.size]? = (w.alloc o1).heap[w.heap.size]? from heap_alloc_old _ _ (by simp)]; exact heap_alloc_new w _
theorem eqAsk (d : Nat) (w : World) (x0 y0 : ByteArray) (x1 y1 : Int) :
    (Op.equalIn (d + 2) 66 (.agg #[.string x0, .int .i64 x1]) (.agg #[.string y0, .int .i64 y1])).run Tryd.prog w = .ok (x0.toList == y0.toList && (x1 == y1)) w := by
  refine eqA_of Tryd.underlying66 (by kernel_rfl) ?_
  refine eqf_cons (by rfl) (by go_simp; rfl) (by go_simp; rfl) (by go_simp) ?_
  exact eqf_last (by rfl) (by go_simp; rfl) (by go_simp; rfl) (by go_simp)
attribute [local go_sem high] eqAsk
set_option maxRecDepth 100000 in
theorem sbytes_any (l : List Int) (A1 A2 : Option Addr) (n1 n2 : Nat) (w : World) (h1 : (Kd.int .u8).C w A1 l.length l) (h2 : (Kd.int .u8).C w A2 l.length l) :
    Calls Tryd.prog 17 #[.slice A1 l.length n1, .slice A2 l.length n2] w fun e w' => e = .returned (.bool true) ∧ Below w.heap.size w w' := by
  have H1 := Aside0.mk h1
  have H2 := Aside0.mk h2
  have HL := Aside0.mk (show l.length ≤ 9223372036854775807 from h1.2.1)
  clear h1 h2
  go_enter Tryd.func17, Tryd.ntmps17
  go_wp2_with fail
  go_loopg [5] l.length (fun q i wr => ∃ k : Nat, k + q = l.length ∧ i = .int .i64 (k : Int) ∧ Aside0 (Below w.heap.size w wr))
  case atStart => exact ⟨0, by omega, rfl, Aside0.mk (Below.refl _ _)⟩
  case round =>
    obtain ⟨k, hkq, rfl, HR⟩ := hrel
    rcases Nat.lt_or_ge k l.length with hk | hk
    · have hkl := HL.out
      have t0 : decide ((k : Int) < (l.length : Int)) = true := decide_eq_true (by omega)
      have ek : wrap64 ((k : Int) + 1) = (k : Int) + 1 := by unfold wrap64; omega
      obtain ⟨q1, rfl⟩ : ∃ q1, gk = q1 + 1 := ⟨gk - 1, by omega⟩
      obtain ⟨ad1, hA1, c1⟩ := Kd.at_int (Kd.C_below H1.out HR.out) (k : Int) (by omega) (by omega)
      obtain ⟨ad2, hA2, c2⟩ := Kd.at_int (Kd.C_below H2.out HR.out) (k : Int) (by omega) (by omega)
      subst hA1 hA2
      rw [Int.toNat_natCast] at c1 c2
      generalize rd l (k : Int) = x at *
      have hlt : ((k : Int) < (l.length : Int)) := by omega
      have h0 : (0 : Int) ≤ (k : Int) := by omega
      have HKQ := Aside0.mk hkq
      clear hkq hk hkl
      go_wp2_with fail
      go_quiet (fail)
      go_wp2
      go_roundg q1
      case measure => exact Nat.lt_succ_self _
      case rel => exact ⟨k + 1, by have := HKQ.out; omega, by rw [show (((k + 1 : Nat) : Int)) = (k : Int) + 1 by omega]; try rw [ek], ⟨by repeat (first | exact HR.out | apply below_drew | apply pw_below_drewN)⟩⟩
    · have t0 : decide ((k : Int) < (l.length : Int)) = false := decide_eq_false (by omega)
      have t0n : decide (k < l.length) = false := decide_eq_false (by omega)
      clear hkq hk
      go_wp2
      go_ret
      exact ⟨rfl, HR.out⟩
set_option maxRecDepth 100000 in
theorem smsg_any (m : Msg) (A1 A2 : Option Addr) (n1 n2 : Nat) (w : World) (h1 : (Kd.int .u8).C w A1 m.payload.length m.payload) (h2 : (Kd.int .u8).C w A2 m.payload.length m.payload) :
    Calls Tryd.prog 16 #[.agg #[.string m.topic, .slice A1 m.payload.length n1, .int .i64 m.qos, .bool m.retain], .agg #[.string m.topic, .slice A2 m.payload.length n2, .int .i64 m.qos, .bool m.retain]] w fun e w' => e = .returned (.bool true) ∧ Below w.heap.size w w' := by
  obtain ⟨t, pp, q, r⟩ := m
  dsimp only at *
  have H1 := Aside0.mk h1
  have H2 := Aside0.mk h2
  clear h1 h2
  go_enter Tryd.func16, Tryd.ntmps16
  go_upto_region 1 with fail
  obtain ⟨W, hW⟩ : ∃ W, W = (w.alloc (.cells #[.string t, .slice A1 pp.length n1, .int .i64 q, .bool r] 39)).alloc (.cells #[.string t, .slice A2 pp.length n2, .int .i64 q, .bool r] 39) := ⟨_, rfl⟩
  have HB := Aside0.mk (show Below w.heap.size w W by rw [hW]; exact ((Below.refl _ _).alloc (Nat.le_refl _) _).alloc (by simp) _)
  have hg1 : W.heap[w.heap.size]? = some (.cells #[.string t, .slice A1 pp.length n1, .int .i64 q, .bool r] 39 (0, 0)) := by rw [hW]; exact (heap_alloc_old _ _ (by simp)).trans (heap_alloc_new w _)
  have hg2 : W.heap[w.heap.size + 1]? = some (.cells #[.string t, .slice A2 pp.length n2, .int .i64 q, .bool r] 39 (0, 0)) := by
    rw [hW]
    have := heap_alloc_new (w.alloc (.cells #[.string t, .slice A1 pp.length n1, .int .i64 q, .bool r] 39)) (.cells #[.string t, .slice A2 pp.length n2, .int .i64 q, .bool r] 39)
    simpa using this
  refine wp_wld (w2 := W) (by rw [hW]) ?_
  have a0 := blk_cell hg1 0
  have a1 := blk_cell hg1 1
  have a2 := blk_cell hg1 2
  have a3 := blk_cell hg1 3
  have b0 := blk_cell hg2 0
  have b1 := blk_cell hg2 1
  have b2 := blk_cell hg2 2
  have b3 := blk_cell hg2 3
  simp only [List.getElem?_toArray, List.getElem?_cons_zero, List.getElem?_cons_succ] at a0 a1 a2 a3 b0 b1 b2 b3
  clear hW hg1 hg2
  go_wp2_with (go_at_call 17; (with_reducible refine (sbytes_any pp A1 A2 n1 n2 _ (Kd.C_below H1.out HB.out) (Kd.C_below H2.out HB.out)).mono ?_); rintro e w2 ⟨rfl, hB⟩; have HB2 := Aside0.mk hB; clear hB)
  go_ret
  exact ⟨rfl, HB.out.trans (HB2.out.mono HB.out.size)⟩
set_option maxRecDepth 100000 in
set_option maxHeartbeats 4000000 in
theorem same_any (p : Pkt) (cs1 cs2 : List Value) (w : World) (h1 : kPkt.K w p cs1) (h2 : kPkt.K w p cs2) :
    Calls Tryd.prog 12 #[.agg cs1.toArray, .agg cs2.toArray] w fun e w' => e = .returned (.bool true) ∧ Below w.heap.size w w' := by
  obtain ⟨Aw1, nw1, Ap1, np1, Am1, nm1, Aa1, na1, Ac1, nc1, Af1, nf1, rfl, hw1, hp1, hm1, ha1, hc1, hf1⟩ := pkt_K h1
  obtain ⟨Aw2, nw2, Ap2, np2, Am2, nm2, Aa2, na2, Ac2, nc2, Af2, nf2, rfl, hw2, hp2, hm2, ha2, hc2, hf2⟩ := pkt_K h2
  have HW := Aside0.mk (And.intro hw1 hw2)
  have HP := Aside0.mk (And.intro hp1 hp2)
  have HM := Aside0.mk (And.intro hm1 hm2)
  have HAS := Aside0.mk (And.intro ha1 ha2)
  have HCD := Aside0.mk (And.intro hc1 hc2)
  have HFS := Aside0.mk (And.intro hf1 hf2)
  clear h1 h2 hw1 hp1 hm1 hw2 hp2 hm2 ha1 ha2 hc1 hc2 hf1 hf2
  obtain ⟨pk, lv, cl, ka, ct, hwl, ⟨wt, wp, wq, wr⟩, hus, us, hpa, pa, pr, cd, dp, ⟨t, pp, q, rt⟩, pid, asks, cods, fils⟩ := p
  dsimp only at HW HP HM HAS HCD HFS
  unfold pktCells
  dsimp only
  go_enter Tryd.func12, Tryd.ntmps12
  go_upto_region 1 with fail
  have HB := Aside0.mk (((Below.refl w.heap.size w).alloc (Nat.le_refl _) (.cells #[.int .i64 pk, .int .i64 lv, .bool cl, .int .i64 ka, .string ct, .bool hwl, .string wt, .slice Aw1 wp.length nw1, .int .i64 wq, .bool wr, .bool hus, .string us, .bool hpa, .slice Ap1 pa.length np1, .bool pr, .int .i64 cd, .bool dp, .string t, .slice Am1 pp.length nm1, .int .i64 q, .bool rt, .int .i64 pid, .slice Aa1 asks.length na1, .slice Ac1 cods.length nc1, .slice Af1 fils.length nf1] 43)).alloc (by simp) (.cells #[.int .i64 pk, .int .i64 lv, .bool cl, .int .i64 ka, .string ct, .bool hwl, .string wt, .slice Aw2 wp.length nw2, .int .i64 wq, .bool wr, .bool hus, .string us, .bool hpa, .slice Ap2 pa.length np2, .bool pr, .int .i64 cd, .bool dp, .string t, .slice Am2 pp.length nm2, .int .i64 q, .bool rt, .int .i64 pid, .slice Aa2 asks.length na2, .slice Ac2 cods.length nc2, .slice Af2 fils.length nf2] 43))
  have HG2 := Aside0.mk (alloc_new2 w (.cells #[.int .i64 pk, .int .i64 lv, .bool cl, .int .i64 ka, .string ct, .bool hwl, .string wt, .slice Aw1 wp.length nw1, .int .i64 wq, .bool wr, .bool hus, .string us, .bool hpa, .slice Ap1 pa.length np1, .bool pr, .int .i64 cd, .bool dp, .string t, .slice Am1 pp.length nm1, .int .i64 q, .bool rt, .int .i64 pid, .slice Aa1 asks.length na1, .slice Ac1 cods.length nc1, .slice Af1 fils.length nf1] 43) (.cells #[.int .i64 pk, .int .i64 lv, .bool cl, .int .i64 ka, .string ct, .bool hwl, .string wt, .slice Aw2 wp.length nw2, .int .i64 wq, .bool wr, .bool hus, .string us, .bool hpa, .slice Ap2 pa.length np2, .bool pr, .int .i64 cd, .bool dp, .string t, .slice Am2 pp.length nm2, .int .i64 q, .bool rt, .int .i64 pid, .slice Aa2 asks.length na2, .slice Ac2 cods.length nc2, .slice Af2 fils.length nf2] 43))
  have HG1 := Aside0.mk (alloc_new1 w (.cells #[.int .i64 pk, .int .i64 lv, .bool cl, .int .i64 ka, .string ct, .bool hwl, .string wt, .slice Aw1 wp.length nw1, .int .i64 wq, .bool wr, .bool hus, .string us, .bool hpa, .slice Ap1 pa.length np1, .bool pr, .int .i64 cd, .bool dp, .string t, .slice Am1 pp.length nm1, .int .i64 q, .bool rt, .int .i64 pid, .slice Aa1 asks.length na1, .slice Ac1 cods.length nc1, .slice Af1 fils.length nf1] 43) (.cells #[.int .i64 pk, .int .i64 lv, .bool cl, .int .i64 ka, .string ct, .bool hwl, .string wt, .slice Aw2 wp.length nw2, .int .i64 wq, .bool wr, .bool hus, .string us, .bool hpa, .slice Ap2 pa.length np2, .bool pr, .int .i64 cd, .bool dp, .string t, .slice Am2 pp.length nm2, .int .i64 q, .bool rt, .int .i64 pid, .slice Aa2 asks.length na2, .slice Ac2 cods.length nc2, .slice Af2 fils.length nf2] 43))
  generalize (w.alloc (.cells #[.int .i64 pk, .int .i64 lv, .bool cl, .int .i64 ka, .string ct, .bool hwl, .string wt, .slice Aw1 wp.length nw1, .int .i64 wq, .bool wr, .bool hus, .string us, .bool hpa, .slice Ap1 pa.length np1, .bool pr, .int .i64 cd, .bool dp, .string t, .slice Am1 pp.length nm1, .int .i64 q, .bool rt, .int .i64 pid, .slice Aa1 asks.length na1, .slice Ac1 cods.length nc1, .slice Af1 fils.length nf1] 43)).alloc (.cells #[.int .i64 pk, .int .i64 lv, .bool cl, .int .i64 ka, .string ct, .bool hwl, .string wt, .slice Aw2 wp.length nw2, .int .i64 wq, .bool wr, .bool hus, .string us, .bool hpa, .slice Ap2 pa.length np2, .bool pr, .int .i64 cd, .bool dp, .string t, .slice Am2 pp.length nm2, .int .i64 q, .bool rt, .int .i64 pid, .slice Aa2 asks.length na2, .slice Ac2 cods.length nc2, .slice Af2 fils.length nf2] 43) = W0 at *
  obtain ⟨G1, hG1⟩ : ∃ G1, w.heap.size = G1 := ⟨_, rfl⟩
  obtain ⟨G2, hG2⟩ : ∃ G2, w.heap.size + 1 = G2 := ⟨_, rfl⟩
  rw [hG1] at HG1
  rw [hG2] at HG2
  rw [hG2, hG1]
  clear hG1 hG2
  have x1_0 : W0.cell? ⟨G1, 0, none⟩ = some (.int .i64 pk) := blk_cell HG1.out 0
  have x1_1 : W0.cell? ⟨G1, 1, none⟩ = some (.int .i64 lv) := blk_cell HG1.out 1
  have x1_2 : W0.cell? ⟨G1, 2, none⟩ = some (.bool cl) := blk_cell HG1.out 2
  have x1_3 : W0.cell? ⟨G1, 3, none⟩ = some (.int .i64 ka) := blk_cell HG1.out 3
  have x1_4 : W0.cell? ⟨G1, 4, none⟩ = some (.string ct) := blk_cell HG1.out 4
  have x1_5 : W0.cell? ⟨G1, 5, none⟩ = some (.bool hwl) := blk_cell HG1.out 5
  have x1_10 : W0.cell? ⟨G1, 10, none⟩ = some (.bool hus) := blk_cell HG1.out 10
  have x1_11 : W0.cell? ⟨G1, 11, none⟩ = some (.string us) := blk_cell HG1.out 11
  have x1_12 : W0.cell? ⟨G1, 12, none⟩ = some (.bool hpa) := blk_cell HG1.out 12
  have x1_14 : W0.cell? ⟨G1, 14, none⟩ = some (.bool pr) := blk_cell HG1.out 14
  have x1_15 : W0.cell? ⟨G1, 15, none⟩ = some (.int .i64 cd) := blk_cell HG1.out 15
  have x1_16 : W0.cell? ⟨G1, 16, none⟩ = some (.bool dp) := blk_cell HG1.out 16
  have x1_21 : W0.cell? ⟨G1, 21, none⟩ = some (.int .i64 pid) := blk_cell HG1.out 21
  have x1_6 : W0.cell? ⟨G1, 6, none⟩ = some (.string wt) := blk_cell HG1.out 6
  have x1_7 : W0.cell? ⟨G1, 7, none⟩ = some (.slice Aw1 wp.length nw1) := blk_cell HG1.out 7
  have x1_8 : W0.cell? ⟨G1, 8, none⟩ = some (.int .i64 wq) := blk_cell HG1.out 8
  have x1_9 : W0.cell? ⟨G1, 9, none⟩ = some (.bool wr) := blk_cell HG1.out 9
  have x2_0 : W0.cell? ⟨G2, 0, none⟩ = some (.int .i64 pk) := blk_cell HG2.out 0
  have x2_1 : W0.cell? ⟨G2, 1, none⟩ = some (.int .i64 lv) := blk_cell HG2.out 1
  have x2_2 : W0.cell? ⟨G2, 2, none⟩ = some (.bool cl) := blk_cell HG2.out 2
  have x2_3 : W0.cell? ⟨G2, 3, none⟩ = some (.int .i64 ka) := blk_cell HG2.out 3
  have x2_4 : W0.cell? ⟨G2, 4, none⟩ = some (.string ct) := blk_cell HG2.out 4
  have x2_5 : W0.cell? ⟨G2, 5, none⟩ = some (.bool hwl) := blk_cell HG2.out 5
  have x2_10 : W0.cell? ⟨G2, 10, none⟩ = some (.bool hus) := blk_cell HG2.out 10
  have x2_11 : W0.cell? ⟨G2, 11, none⟩ = some (.string us) := blk_cell HG2.out 11
  have x2_12 : W0.cell? ⟨G2, 12, none⟩ = some (.bool hpa) := blk_cell HG2.out 12
  have x2_14 : W0.cell? ⟨G2, 14, none⟩ = some (.bool pr) := blk_cell HG2.out 14
  have x2_15 : W0.cell? ⟨G2, 15, none⟩ = some (.int .i64 cd) := blk_cell HG2.out 15
  have x2_16 : W0.cell? ⟨G2, 16, none⟩ = some (.bool dp) := blk_cell HG2.out 16
  have x2_21 : W0.cell? ⟨G2, 21, none⟩ = some (.int .i64 pid) := blk_cell HG2.out 21
  have x2_6 : W0.cell? ⟨G2, 6, none⟩ = some (.string wt) := blk_cell HG2.out 6
  have x2_7 : W0.cell? ⟨G2, 7, none⟩ = some (.slice Aw2 wp.length nw2) := blk_cell HG2.out 7
  have x2_8 : W0.cell? ⟨G2, 8, none⟩ = some (.int .i64 wq) := blk_cell HG2.out 8
  have x2_9 : W0.cell? ⟨G2, 9, none⟩ = some (.bool wr) := blk_cell HG2.out 9
  go_wp2_with fail
  refine (smsg_any ⟨wt, wp, wq, wr⟩ Aw1 Aw2 nw1 nw2 W0 (Kd.C_below HW.out.1.2 HB.out) (Kd.C_below HW.out.2.2 HB.out)).mono ?_
  rintro e W1 ⟨rfl, hb1⟩
  have h1 := blk_lt HG1.out
  have h2 := blk_lt HG2.out
  have HG1 := Aside0.mk ((hb1.block G1 h1).trans HG1.out)
  have HG2 := Aside0.mk ((hb1.block G2 h2).trans HG2.out)
  have HB := Aside0.mk (HB.out.trans (hb1.mono HB.out.size))
  clear hb1
  clear x1_0 x1_1 x1_2 x1_3 x1_4 x1_5 x1_10 x1_11 x1_12 x1_14 x1_15 x1_16 x1_21 x1_6 x1_7 x1_8 x1_9 x2_0 x2_1 x2_2 x2_3 x2_4 x2_5 x2_10 x2_11 x2_12 x2_14 x2_15 x2_16 x2_21 x2_6 x2_7 x2_8 x2_9
  have x1_17 : W1.cell? ⟨G1, 17, none⟩ = some (.string t) := blk_cell HG1.out 17
  have x1_18 : W1.cell? ⟨G1, 18, none⟩ = some (.slice Am1 pp.length nm1) := blk_cell HG1.out 18
  have x1_19 : W1.cell? ⟨G1, 19, none⟩ = some (.int .i64 q) := blk_cell HG1.out 19
  have x1_20 : W1.cell? ⟨G1, 20, none⟩ = some (.bool rt) := blk_cell HG1.out 20
  have x2_17 : W1.cell? ⟨G2, 17, none⟩ = some (.string t) := blk_cell HG2.out 17
  have x2_18 : W1.cell? ⟨G2, 18, none⟩ = some (.slice Am2 pp.length nm2) := blk_cell HG2.out 18
  have x2_19 : W1.cell? ⟨G2, 19, none⟩ = some (.int .i64 q) := blk_cell HG2.out 19
  have x2_20 : W1.cell? ⟨G2, 20, none⟩ = some (.bool rt) := blk_cell HG2.out 20
  go_wp2_with fail
  refine (smsg_any ⟨t, pp, q, rt⟩ Am1 Am2 nm1 nm2 W1 (Kd.C_below HM.out.1.2 HB.out) (Kd.C_below HM.out.2.2 HB.out)).mono ?_
  rintro e W2 ⟨rfl, hb1⟩
  have h1 := blk_lt HG1.out
  have h2 := blk_lt HG2.out
  have HG1 := Aside0.mk ((hb1.block G1 h1).trans HG1.out)
  have HG2 := Aside0.mk ((hb1.block G2 h2).trans HG2.out)
  have HB := Aside0.mk (HB.out.trans (hb1.mono HB.out.size))
  clear hb1
  clear x1_17 x1_18 x1_19 x1_20 x2_17 x2_18 x2_19 x2_20
  have x1_13 : W2.cell? ⟨G1, 13, none⟩ = some (.slice Ap1 pa.length np1) := blk_cell HG1.out 13
  have x2_13 : W2.cell? ⟨G2, 13, none⟩ = some (.slice Ap2 pa.length np2) := blk_cell HG2.out 13
  go_wp2_with fail
  refine (sbytes_any pa Ap1 Ap2 np1 np2 W2 (Kd.C_below HP.out.1.2 HB.out) (Kd.C_below HP.out.2.2 HB.out)).mono ?_
  rintro e W3 ⟨rfl, hb1⟩
  have h1 := blk_lt HG1.out
  have h2 := blk_lt HG2.out
  have HG1 := Aside0.mk ((hb1.block G1 h1).trans HG1.out)
  have HG2 := Aside0.mk ((hb1.block G2 h2).trans HG2.out)
  have HB := Aside0.mk (HB.out.trans (hb1.mono HB.out.size))
  clear hb1
  clear x1_13 x2_13
  have x1_22 : W3.cell? ⟨G1, 22, none⟩ = some (.slice Aa1 asks.length na1) := blk_cell HG1.out 22
  have x1_23 : W3.cell? ⟨G1, 23, none⟩ = some (.slice Ac1 cods.length nc1) := blk_cell HG1.out 23
  have x1_24 : W3.cell? ⟨G1, 24, none⟩ = some (.slice Af1 fils.length nf1) := blk_cell HG1.out 24
  have x2_22 : W3.cell? ⟨G2, 22, none⟩ = some (.slice Aa2 asks.length na2) := blk_cell HG2.out 22
  have x2_23 : W3.cell? ⟨G2, 23, none⟩ = some (.slice Ac2 cods.length nc2) := blk_cell HG2.out 23
  have x2_24 : W3.cell? ⟨G2, 24, none⟩ = some (.slice Af2 fils.length nf2) := blk_cell HG2.out 24
  go_wp2_with fail
  have HQ := Aside0.mk (show ∀ W, Below W3.heap.size W3 W → Below w.heap.size w W from fun W h => HB.out.trans (h.mono HB.out.size))
  have HX1 := Aside0.mk (And.intro HG1.out HG2.out)
  have HAL := Aside0.mk (And.intro (show asks.length ≤ 9223372036854775807 from HAS.out.1.2.2.1) (And.intro (show cods.length ≤ 9223372036854775807 from HCD.out.1.2.2.1) (show fils.length ≤ 9223372036854775807 from HFS.out.1.2.2.1)))
  have hgs : G1 < W3.heap.size ∧ G2 < W3.heap.size := ⟨blk_lt HG1.out, blk_lt HG2.out⟩
  have HGS := Aside0.mk hgs
  clear hgs
  go_loopg [5] asks.length (fun q i wr => ∃ k : Nat, k + q = asks.length ∧ i = .int .i64 (k : Int) ∧ Aside0 (Below W3.heap.size W3 wr))
  case atStart => exact ⟨0, by omega, rfl, Aside0.mk (Below.refl _ _)⟩
  case round =>
    obtain ⟨k, hkq, rfl, HR⟩ := hrel
    clear x1_22 x1_23 x1_24 x2_22 x2_23 x2_24
    have g1 : wr.heap[G1]? = _ := (HR.out.block G1 HGS.out.1).trans HG1.out
    have g2 : wr.heap[G2]? = _ := (HR.out.block G2 HGS.out.2).trans HG2.out
    have x1_22 : wr.cell? ⟨G1, 22, none⟩ = some (.slice Aa1 asks.length na1) := blk_cell g1 22
    have x2_22 : wr.cell? ⟨G2, 22, none⟩ = some (.slice Aa2 asks.length na2) := blk_cell g2 22
    rcases Nat.lt_or_ge k asks.length with hk | hk
    · have hkl := HAL.out.1
      have t0 : decide ((k : Int) < (asks.length : Int)) = true := decide_eq_true (by omega)
      have ek : wrap64 ((k : Int) + 1) = (k : Int) + 1 := by unfold wrap64; omega
      obtain ⟨q1, rfl⟩ : ∃ q1, gk = q1 + 1 := ⟨gk - 1, by omega⟩
      obtain ⟨ad1, hA1, c10, c11⟩ := ask_at (Kd.C_below HAS.out.1.2 (HQ.out _ HR.out)) k hk hk
      obtain ⟨ad2, hA2, c20, c21⟩ := ask_at (Kd.C_below HAS.out.2.2 (HQ.out _ HR.out)) k hk hk
      subst hA1 hA2
      have c11 : wr.cell? { block := (ad1.add (k * 2)).block, off := (ad1.add (k * 2)).off + 1 } = some (.int .i64 asks[k].qos) := by
        have h3 := cell_nospot c11
        rw [Addr.add_off1] at h3
        exact h3
      have c21 : wr.cell? { block := (ad2.add (k * 2)).block, off := (ad2.add (k * 2)).off + 1 } = some (.int .i64 asks[k].qos) := by
        have h3 := cell_nospot c21
        rw [Addr.add_off1] at h3
        exact h3
      generalize asks[k] = a at *
      obtain ⟨fl, qs⟩ := a
      dsimp only at c10 c11 c20 c21
      have hlt : ((k : Int) < (asks.length : Int)) := by omega
      have h0 : (0 : Int) ≤ (k : Int) := by omega
      have HKQ := Aside0.mk hkq
      clear hkq hk hkl g1 g2
      go_wp2_with fail
      go_quiet (fail)
      go_wp2
      go_roundg q1
      case measure => exact Nat.lt_succ_self _
      case rel => exact ⟨k + 1, by have := HKQ.out; omega, by rw [show (((k + 1 : Nat) : Int)) = (k : Int) + 1 by omega]; try rw [ek], ⟨by repeat (first | exact HR.out | apply below_drew | apply pw_below_drewN)⟩⟩
    · have t0 : decide ((k : Int) < (asks.length : Int)) = false := decide_eq_false (by omega)
      have t0n : decide (k < asks.length) = false := decide_eq_false (by omega)
      clear hkq hk
      have x1_23 : wr.cell? ⟨G1, 23, none⟩ = some (.slice Ac1 cods.length nc1) := blk_cell g1 23
      have x2_23 : wr.cell? ⟨G2, 23, none⟩ = some (.slice Ac2 cods.length nc2) := blk_cell g2 23
      clear g1 g2
      go_wp2_with fail
      go_loopg [6] cods.length (fun q i wr2 => ∃ k : Nat, k + q = cods.length ∧ i = .int .i64 (k : Int) ∧ Aside0 (Below W3.heap.size W3 wr2))
      case atStart => exact ⟨0, by omega, rfl, HR⟩
      case round =>
        obtain ⟨k2, hkq, rfl, HR2⟩ := hrel
        clear x1_22 x2_22 x1_23 x2_23 HR t0 t0n
        have g1 := (HR2.out.block G1 HGS.out.1).trans HG1.out
        have g2 := (HR2.out.block G2 HGS.out.2).trans HG2.out
        have x1_23 : wr.cell? ⟨G1, 23, none⟩ = some (.slice Ac1 cods.length nc1) := blk_cell g1 23
        have x2_23 : wr.cell? ⟨G2, 23, none⟩ = some (.slice Ac2 cods.length nc2) := blk_cell g2 23
        rcases Nat.lt_or_ge k2 cods.length with hk | hk
        · have hkl := HAL.out.2.1
          have t0 : decide ((k2 : Int) < (cods.length : Int)) = true := decide_eq_true (by omega)
          have ek : wrap64 ((k2 : Int) + 1) = (k2 : Int) + 1 := by unfold wrap64; omega
          obtain ⟨q1, rfl⟩ : ∃ q1, gk = q1 + 1 := ⟨gk - 1, by omega⟩
          obtain ⟨ad1, hA1, c1⟩ := Kd.at_int (Kd.C_below HCD.out.1.2 (HQ.out _ HR2.out)) (k2 : Int) (by omega) (by omega)
          obtain ⟨ad2, hA2, c2⟩ := Kd.at_int (Kd.C_below HCD.out.2.2 (HQ.out _ HR2.out)) (k2 : Int) (by omega) (by omega)
          subst hA1 hA2
          rw [Int.toNat_natCast] at c1 c2
          generalize rd cods (k2 : Int) = x at *
          have hlt : ((k2 : Int) < (cods.length : Int)) := by omega
          have h0 : (0 : Int) ≤ (k2 : Int) := by omega
          have HKQ := Aside0.mk hkq
          clear hkq hk hkl g1 g2
          go_wp2_with fail
          go_quiet (fail)
          go_wp2
          go_roundg q1
          case measure => exact Nat.lt_succ_self _
          case rel => exact ⟨k2 + 1, by have := HKQ.out; omega, by rw [show (((k2 + 1 : Nat) : Int)) = (k2 : Int) + 1 by omega]; try rw [ek], ⟨by repeat (first | exact HR2.out | apply below_drew | apply pw_below_drewN)⟩⟩
        · have t0 : decide ((k2 : Int) < (cods.length : Int)) = false := decide_eq_false (by omega)
          have t0n : decide (k2 < cods.length) = false := decide_eq_false (by omega)
          clear hkq hk
          have x1_24 : wr.cell? ⟨G1, 24, none⟩ = some (.slice Af1 fils.length nf1) := blk_cell g1 24
          have x2_24 : wr.cell? ⟨G2, 24, none⟩ = some (.slice Af2 fils.length nf2) := blk_cell g2 24
          clear g1 g2
          go_wp2_with fail
          go_loopg [7] fils.length (fun q i wr3 => ∃ k : Nat, k + q = fils.length ∧ i = .int .i64 (k : Int) ∧ Aside0 (Below W3.heap.size W3 wr3))
          case atStart => exact ⟨0, by omega, rfl, HR2⟩
          case round =>
            obtain ⟨k3, hkq, rfl, HR3⟩ := hrel
            clear x1_23 x2_23 x1_24 x2_24 HR2 t0 t0n
            have g1 := (HR3.out.block G1 HGS.out.1).trans HG1.out
            have g2 := (HR3.out.block G2 HGS.out.2).trans HG2.out
            have x1_24 : wr.cell? ⟨G1, 24, none⟩ = some (.slice Af1 fils.length nf1) := blk_cell g1 24
            have x2_24 : wr.cell? ⟨G2, 24, none⟩ = some (.slice Af2 fils.length nf2) := blk_cell g2 24
            rcases Nat.lt_or_ge k3 fils.length with hk | hk
            · have hkl := HAL.out.2.2
              have t0 : decide ((k3 : Int) < (fils.length : Int)) = true := decide_eq_true (by omega)
              have ek : wrap64 ((k3 : Int) + 1) = (k3 : Int) + 1 := by unfold wrap64; omega
              obtain ⟨q1, rfl⟩ : ∃ q1, gk = q1 + 1 := ⟨gk - 1, by omega⟩
              obtain ⟨ad1, hA1, c1⟩ := Kd.at_string (Kd.C_below HFS.out.1.2 (HQ.out _ HR3.out)) (k3 : Int) (by omega) (by omega)
              obtain ⟨ad2, hA2, c2⟩ := Kd.at_string (Kd.C_below HFS.out.2.2 (HQ.out _ HR3.out)) (k3 : Int) (by omega) (by omega)
              subst hA1 hA2
              rw [Int.toNat_natCast] at c1 c2
              generalize rdOf ByteArray.empty fils (k3 : Int) = x at *
              have hlt : ((k3 : Int) < (fils.length : Int)) := by omega
              have h0 : (0 : Int) ≤ (k3 : Int) := by omega
              have HKQ := Aside0.mk hkq
              clear hkq hk hkl g1 g2
              go_wp2_with fail
              go_quiet (fail)
              go_wp2
              go_roundg q1
              case measure => exact Nat.lt_succ_self _
              case rel => exact ⟨k3 + 1, by have := HKQ.out; omega, by rw [show (((k3 + 1 : Nat) : Int)) = (k3 : Int) + 1 by omega]; try rw [ek], ⟨by repeat (first | exact HR3.out | apply below_drew | apply pw_below_drewN)⟩⟩
            · have t0 : decide ((k3 : Int) < (fils.length : Int)) = false := decide_eq_false (by omega)
              have t0n : decide (k3 < fils.length) = false := decide_eq_false (by omega)
              clear hkq hk g1 g2
              go_wp2
              go_ret
              exact ⟨rfl, HQ.out _ HR3.out⟩
end Go.Proofs.YthlbcgaegaoanaaDoor.Cr

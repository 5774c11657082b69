/- crierref2.Same of two packets that read alike; crierlaw14.sameInputs. No statement of the program. crierlaw14.sameInput and sameInputs of what reads alike. No statement of the program. ConnCuts in plain Lean: what is told of pieces is what is told of all bytes. No statement of the program. ConnCuts' walk: no cut shows. No statement of the program. -/
import Derived.Test.YthlbcgaegaoanaaGreatDoorMFilt
import Derived.Test.YthlbcgaegaoanaaGreatDoorMForeign
import Derived.Test.YthlbcgaegaoanaaGreatDoorMW
import Derived.Deep.DeepCutAuto
import Derived.BigQuiet
import Derived.Test.YthlbcgaegaoanaaGreatDoorMKnown
namespace Go.Proofs.YthlbcgaegaoanaaGreatDoor.Cr
open Go Go.RowKit Go.Proofs.YthlbcgaegaoanaaGreatDoorW.PrintWords Go.Proofs.YthlbcgaegaoanaaGreatDoorW.PrintLast Go.Proofs.YthlbcgaegaoanaaGreatDoorW.PrintMore Go.Proofs.YthlbcgaegaoanaaGreatDoor.Kinds Go.Proofs.YthlbcgaegaoanaaGreatDoor.Utf Go.Proofs.YthlbcgaegaoanaaGreatDoor.Chk Go.Proofs.YthlbcgaegaoanaaGreatDoor.Rdr
set_option linter.unusedVariables false
set_option linter.unusedSimpArgs false
theorem alloc_new1 (w : World) (o1 o2 : Obj) : ((w.alloc o1).alloc o2).heap[w.heap.size]? = some o1 := by
  rw [show ((w.alloc o1).alloc o2).heap[w.heap.size]? = (w.alloc o1).heap[w.heap.size]? from heap_alloc_old _ _ (by simp)]; exact heap_alloc_new w _
theorem eqAsk (d : Nat) (w : World) (x0 y0 : ByteArray) (x1 y1 : Int) :
    (Op.equalIn (d + 2) 124 (.agg #[.string x0, .int .i64 x1]) (.agg #[.string y0, .int .i64 y1])).run Tryz.prog w = .ok (x0.toList == y0.toList && (x1 == y1)) w := by
  refine eqA_of Tryz.underlying124 (by kernel_rfl) ?_
  refine eqf_cons (by rfl) (by go_simp; rfl) (by go_simp; rfl) (by go_simp) ?_
  exact eqf_last (by rfl) (by go_simp; rfl) (by go_simp; rfl) (by go_simp)
attribute [local go_sem high] eqAsk
set_option maxRecDepth 100000 in
theorem sbytes_any (l : List Int) (A1 A2 : Option Addr) (n1 n2 : Nat) (w : World) (h1 : (Kd.int .u8).C w A1 l.length l) (h2 : (Kd.int .u8).C w A2 l.length l) :
    Calls Tryz.prog 65 #[.slice A1 l.length n1, .slice A2 l.length n2] w fun e w' => e = .returned (.bool true) ∧ Below w.heap.size w w' := by
  have H1 := Aside0.mk h1
  have H2 := Aside0.mk h2
  have HL := Aside0.mk (show l.length ≤ 9223372036854775807 from h1.2.1)
  clear h1 h2
  go_enter Tryz.func65, Tryz.ntmps65
  go_wp2_with fail
  go_loopg [5] l.length (fun q i wr => ∃ k : Nat, k + q = l.length ∧ i = .int .i64 (k : Int) ∧ Aside0 (Below w.heap.size w wr))
  case atStart => exact ⟨0, by omega, rfl, Aside0.mk (Below.refl _ _)⟩
  case round =>
    obtain ⟨k, hkq, rfl, HR⟩ := hrel
    rcases Nat.lt_or_ge k l.length with hk | hk
    · have hkl := HL.out
      have t0 : decide ((k : Int) < (l.length : Int)) = true := decide_eq_true (by omega)
      have ek : wrap64 ((k : Int) + 1) = (k : Int) + 1 := by unfold wrap64; omega
      obtain ⟨q1, rfl⟩ : ∃ q1, gk = q1 + 1 := ⟨gk - 1, by omega⟩
      obtain ⟨ad1, hA1, c1⟩ := Kd.at_int (Kd.C_below H1.out HR.out) (k : Int) (by omega) (by omega)
      obtain ⟨ad2, hA2, c2⟩ := Kd.at_int (Kd.C_below H2.out HR.out) (k : Int) (by omega) (by omega)
      subst hA1 hA2
      rw [Int.toNat_natCast] at c1 c2
      generalize rd l (k : Int) = x at *
      have hlt : ((k : Int) < (l.length : Int)) := by omega
      have h0 : (0 : Int) ≤ (k : Int) := by omega
      have HKQ := Aside0.mk hkq
      clear hkq hk hkl
      go_wp2_with fail
      go_quiet (fail)
      go_wp2
      go_roundg q1
      case measure => exact Nat.lt_succ_self _
      case rel => exact ⟨k + 1, by have := HKQ.out; omega, by rw [show (((k + 1 : Nat) : Int)) = (k : Int) + 1 by omega]; try rw [ek], ⟨by repeat (first | exact HR.out | apply below_drew | apply pw_below_drewN)⟩⟩
    · have t0 : decide ((k : Int) < (l.length : Int)) = false := decide_eq_false (by omega)
      have t0n : decide (k < l.length) = false := decide_eq_false (by omega)
      clear hkq hk
      go_wp2
      go_ret
      exact ⟨rfl, HR.out⟩
set_option maxRecDepth 100000 in
theorem smsg_any (m : Msg) (A1 A2 : Option Addr) (n1 n2 : Nat) (w : World) (h1 : (Kd.int .u8).C w A1 m.payload.length m.payload) (h2 : (Kd.int .u8).C w A2 m.payload.length m.payload) :
    Calls Tryz.prog 64 #[.agg #[.string m.topic, .slice A1 m.payload.length n1, .int .i64 m.qos, .bool m.retain], .agg #[.string m.topic, .slice A2 m.payload.length n2, .int .i64 m.qos, .bool m.retain]] w fun e w' => e = .returned (.bool true) ∧ Below w.heap.size w w' := by
  obtain ⟨t, pp, q, r⟩ := m
  dsimp only at *
  have H1 := Aside0.mk h1
  have H2 := Aside0.mk h2
  clear h1 h2
  go_enter Tryz.func64, Tryz.ntmps64
  go_upto_region 1 with fail
  obtain ⟨W, hW⟩ : ∃ W, W = (w.alloc (.cells #[.string t, .slice A1 pp.length n1, .int .i64 q, .bool r] 34)).alloc (.cells #[.string t, .slice A2 pp.length n2, .int .i64 q, .bool r] 34) := ⟨_, rfl⟩
  have HB := Aside0.mk (show Below w.heap.size w W by rw [hW]; exact ((Below.refl _ _).alloc (Nat.le_refl _) _).alloc (by simp) _)
  have hg1 : W.heap[w.heap.size]? = some (.cells #[.string t, .slice A1 pp.length n1, .int .i64 q, .bool r] 34 (0, 0)) := by rw [hW]; exact (heap_alloc_old _ _ (by simp)).trans (heap_alloc_new w _)
  have hg2 : W.heap[w.heap.size + 1]? = some (.cells #[.string t, .slice A2 pp.length n2, .int .i64 q, .bool r] 34 (0, 0)) := by
    rw [hW]
    have := heap_alloc_new (w.alloc (.cells #[.string t, .slice A1 pp.length n1, .int .i64 q, .bool r] 34)) (.cells #[.string t, .slice A2 pp.length n2, .int .i64 q, .bool r] 34)
    simpa using this
  refine wp_wld (w2 := W) (by rw [hW]) ?_
  have a0 := blk_cell hg1 0
  have a1 := blk_cell hg1 1
  have a2 := blk_cell hg1 2
  have a3 := blk_cell hg1 3
  have b0 := blk_cell hg2 0
  have b1 := blk_cell hg2 1
  have b2 := blk_cell hg2 2
  have b3 := blk_cell hg2 3
  simp only [List.getElem?_toArray, List.getElem?_cons_zero, List.getElem?_cons_succ] at a0 a1 a2 a3 b0 b1 b2 b3
  clear hW hg1 hg2
  go_wp2_with (go_at_call 65; (with_reducible refine (sbytes_any pp A1 A2 n1 n2 _ (Kd.C_below H1.out HB.out) (Kd.C_below H2.out HB.out)).mono ?_); rintro e w2 ⟨rfl, hB⟩; have HB2 := Aside0.mk hB; clear hB)
  go_ret
  exact ⟨rfl, HB.out.trans (HB2.out.mono HB.out.size)⟩
set_option maxRecDepth 100000 in
set_option maxHeartbeats 4000000 in
theorem same_any (p : Pkt) (cs1 cs2 : List Value) (w : World) (h1 : kPkt.K w p cs1) (h2 : kPkt.K w p cs2) :
    Calls Tryz.prog 26 #[.agg cs1.toArray, .agg cs2.toArray] w fun e w' => e = .returned (.bool true) ∧ Below w.heap.size w w' := by
  obtain ⟨Aw1, nw1, Ap1, np1, Am1, nm1, Aa1, na1, Ac1, nc1, Af1, nf1, rfl, hw1, hp1, hm1, ha1, hc1, hf1⟩ := pkt_K h1
  obtain ⟨Aw2, nw2, Ap2, np2, Am2, nm2, Aa2, na2, Ac2, nc2, Af2, nf2, rfl, hw2, hp2, hm2, ha2, hc2, hf2⟩ := pkt_K h2
  have HW := Aside0.mk (And.intro hw1 hw2)
  have HP := Aside0.mk (And.intro hp1 hp2)
  have HM := Aside0.mk (And.intro hm1 hm2)
  have HAS := Aside0.mk (And.intro ha1 ha2)
  have HCD := Aside0.mk (And.intro hc1 hc2)
  have HFS := Aside0.mk (And.intro hf1 hf2)
  clear h1 h2 hw1 hp1 hm1 hw2 hp2 hm2 ha1 ha2 hc1 hc2 hf1 hf2
  obtain ⟨pk, lv, cl, ka, ct, hwl, ⟨wt, wp, wq, wr⟩, hus, us, hpa, pa, pr, cd, dp, ⟨t, pp, q, rt⟩, pid, asks, cods, fils⟩ := p
  dsimp only at HW HP HM HAS HCD HFS
  unfold pktCells
  dsimp only
  go_enter Tryz.func26, Tryz.ntmps26
  go_upto_region 1 with fail
  have HB := Aside0.mk (((Below.refl w.heap.size w).alloc (Nat.le_refl _) (.cells #[.int .i64 pk, .int .i64 lv, .bool cl, .int .i64 ka, .string ct, .bool hwl, .string wt, .slice Aw1 wp.length nw1, .int .i64 wq, .bool wr, .bool hus, .string us, .bool hpa, .slice Ap1 pa.length np1, .bool pr, .int .i64 cd, .bool dp, .string t, .slice Am1 pp.length nm1, .int .i64 q, .bool rt, .int .i64 pid, .slice Aa1 asks.length na1, .slice Ac1 cods.length nc1, .slice Af1 fils.length nf1] 38)).alloc (by simp) (.cells #[.int .i64 pk, .int .i64 lv, .bool cl, .int .i64 ka, .string ct, .bool hwl, .string wt, .slice Aw2 wp.length nw2, .int .i64 wq, .bool wr, .bool hus, .string us, .bool hpa, .slice Ap2 pa.length np2, .bool pr, .int .i64 cd, .bool dp, .string t, .slice Am2 pp.length nm2, .int .i64 q, .bool rt, .int .i64 pid, .slice Aa2 asks.length na2, .slice Ac2 cods.length nc2, .slice Af2 fils.length nf2] 38))
  have HG2 := Aside0.mk (alloc_new2 w (.cells #[.int .i64 pk, .int .i64 lv, .bool cl, .int .i64 ka, .string ct, .bool hwl, .string wt, .slice Aw1 wp.length nw1, .int .i64 wq, .bool wr, .bool hus, .string us, .bool hpa, .slice Ap1 pa.length np1, .bool pr, .int .i64 cd, .bool dp, .string t, .slice Am1 pp.length nm1, .int .i64 q, .bool rt, .int .i64 pid, .slice Aa1 asks.length na1, .slice Ac1 cods.length nc1, .slice Af1 fils.length nf1] 38) (.cells #[.int .i64 pk, .int .i64 lv, .bool cl, .int .i64 ka, .string ct, .bool hwl, .string wt, .slice Aw2 wp.length nw2, .int .i64 wq, .bool wr, .bool hus, .string us, .bool hpa, .slice Ap2 pa.length np2, .bool pr, .int .i64 cd, .bool dp, .string t, .slice Am2 pp.length nm2, .int .i64 q, .bool rt, .int .i64 pid, .slice Aa2 asks.length na2, .slice Ac2 cods.length nc2, .slice Af2 fils.length nf2] 38))
  have HG1 := Aside0.mk (alloc_new1 w (.cells #[.int .i64 pk, .int .i64 lv, .bool cl, .int .i64 ka, .string ct, .bool hwl, .string wt, .slice Aw1 wp.length nw1, .int .i64 wq, .bool wr, .bool hus, .string us, .bool hpa, .slice Ap1 pa.length np1, .bool pr, .int .i64 cd, .bool dp, .string t, .slice Am1 pp.length nm1, .int .i64 q, .bool rt, .int .i64 pid, .slice Aa1 asks.length na1, .slice Ac1 cods.length nc1, .slice Af1 fils.length nf1] 38) (.cells #[.int .i64 pk, .int .i64 lv, .bool cl, .int .i64 ka, .string ct, .bool hwl, .string wt, .slice Aw2 wp.length nw2, .int .i64 wq, .bool wr, .bool hus, .string us, .bool hpa, .slice Ap2 pa.length np2, .bool pr, .int .i64 cd, .bool dp, .string t, .slice Am2 pp.length nm2, .int .i64 q, .bool rt, .int .i64 pid, .slice Aa2 asks.length na2, .slice Ac2 cods.length nc2, .slice Af2 fils.length nf2] 38))
  generalize (w.alloc (.cells #[.int .i64 pk, .int .i64 lv, .bool cl, .int .i64 ka, .string ct, .bool hwl, .string wt, .slice Aw1 wp.length nw1, .int .i64 wq, .bool wr, .bool hus, .string us, .bool hpa, .slice Ap1 pa.length np1, .bool pr, .int .i64 cd, .bool dp, .string t, .slice Am1 pp.length nm1, .int .i64 q, .bool rt, .int .i64 pid, .slice Aa1 asks.length na1, .slice Ac1 cods.length nc1, .slice Af1 fils.length nf1] 38)).alloc (.cells #[.int .i64 pk, .int .i64 lv, .bool cl, .int .i64 ka, .string ct, .bool hwl, .string wt, .slice Aw2 wp.length nw2, .int .i64 wq, .bool wr, .bool hus, .string us, .bool hpa, .slice Ap2 pa.length np2, .bool pr, .int .i64 cd, .bool dp, .string t, .slice Am2 pp.length nm2, .int .i64 q, .bool rt, .int .i64 pid, .slice Aa2 asks.length na2, .slice Ac2 cods.length nc2, .slice Af2 fils.length nf2] 38) = W0 at *
  obtain ⟨G1, hG1⟩ : ∃ G1, w.heap.size = G1 := ⟨_, rfl⟩
  obtain ⟨G2, hG2⟩ : ∃ G2, w.heap.size + 1 = G2 := ⟨_, rfl⟩
  rw [hG1] at HG1
  rw [hG2] at HG2
  rw [hG2, hG1]
  clear hG1 hG2
  have x1_0 : W0.cell? ⟨G1, 0, none⟩ = some (.int .i64 pk) := blk_cell HG1.out 0
  have x1_1 : W0.cell? ⟨G1, 1, none⟩ = some (.int .i64 lv) := blk_cell HG1.out 1
  have x1_2 : W0.cell? ⟨G1, 2, none⟩ = some (.bool cl) := blk_cell HG1.out 2
  have x1_3 : W0.cell? ⟨G1, 3, none⟩ = some (.int .i64 ka) := blk_cell HG1.out 3
  have x1_4 : W0.cell? ⟨G1, 4, none⟩ = some (.string ct) := blk_cell HG1.out 4
  have x1_5 : W0.cell? ⟨G1, 5, none⟩ = some (.bool hwl) := blk_cell HG1.out 5
  have x1_10 : W0.cell? ⟨G1, 10, none⟩ = some (.bool hus) := blk_cell HG1.out 10
  have x1_11 : W0.cell? ⟨G1, 11, none⟩ = some (.string us) := blk_cell HG1.out 11
  have x1_12 : W0.cell? ⟨G1, 12, none⟩ = some (.bool hpa) := blk_cell HG1.out 12
  have x1_14 : W0.cell? ⟨G1, 14, none⟩ = some (.bool pr) := blk_cell HG1.out 14
  have x1_15 : W0.cell? ⟨G1, 15, none⟩ = some (.int .i64 cd) := blk_cell HG1.out 15
  have x1_16 : W0.cell? ⟨G1, 16, none⟩ = some (.bool dp) := blk_cell HG1.out 16
  have x1_21 : W0.cell? ⟨G1, 21, none⟩ = some (.int .i64 pid) := blk_cell HG1.out 21
  have x1_6 : W0.cell? ⟨G1, 6, none⟩ = some (.string wt) := blk_cell HG1.out 6
  have x1_7 : W0.cell? ⟨G1, 7, none⟩ = some (.slice Aw1 wp.length nw1) := blk_cell HG1.out 7
  have x1_8 : W0.cell? ⟨G1, 8, none⟩ = some (.int .i64 wq) := blk_cell HG1.out 8
  have x1_9 : W0.cell? ⟨G1, 9, none⟩ = some (.bool wr) := blk_cell HG1.out 9
  have x2_0 : W0.cell? ⟨G2, 0, none⟩ = some (.int .i64 pk) := blk_cell HG2.out 0
  have x2_1 : W0.cell? ⟨G2, 1, none⟩ = some (.int .i64 lv) := blk_cell HG2.out 1
  have x2_2 : W0.cell? ⟨G2, 2, none⟩ = some (.bool cl) := blk_cell HG2.out 2
  have x2_3 : W0.cell? ⟨G2, 3, none⟩ = some (.int .i64 ka) := blk_cell HG2.out 3
  have x2_4 : W0.cell? ⟨G2, 4, none⟩ = some (.string ct) := blk_cell HG2.out 4
  have x2_5 : W0.cell? ⟨G2, 5, none⟩ = some (.bool hwl) := blk_cell HG2.out 5
  have x2_10 : W0.cell? ⟨G2, 10, none⟩ = some (.bool hus) := blk_cell HG2.out 10
  have x2_11 : W0.cell? ⟨G2, 11, none⟩ = some (.string us) := blk_cell HG2.out 11
  have x2_12 : W0.cell? ⟨G2, 12, none⟩ = some (.bool hpa) := blk_cell HG2.out 12
  have x2_14 : W0.cell? ⟨G2, 14, none⟩ = some (.bool pr) := blk_cell HG2.out 14
  have x2_15 : W0.cell? ⟨G2, 15, none⟩ = some (.int .i64 cd) := blk_cell HG2.out 15
  have x2_16 : W0.cell? ⟨G2, 16, none⟩ = some (.bool dp) := blk_cell HG2.out 16
  have x2_21 : W0.cell? ⟨G2, 21, none⟩ = some (.int .i64 pid) := blk_cell HG2.out 21
  have x2_6 : W0.cell? ⟨G2, 6, none⟩ = some (.string wt) := blk_cell HG2.out 6
  have x2_7 : W0.cell? ⟨G2, 7, none⟩ = some (.slice Aw2 wp.length nw2) := blk_cell HG2.out 7
  have x2_8 : W0.cell? ⟨G2, 8, none⟩ = some (.int .i64 wq) := blk_cell HG2.out 8
  have x2_9 : W0.cell? ⟨G2, 9, none⟩ = some (.bool wr) := blk_cell HG2.out 9
  go_wp2_with fail
  refine (smsg_any ⟨wt, wp, wq, wr⟩ Aw1 Aw2 nw1 nw2 W0 (Kd.C_below HW.out.1.2 HB.out) (Kd.C_below HW.out.2.2 HB.out)).mono ?_
  rintro e W1 ⟨rfl, hb1⟩
  have h1 := blk_lt HG1.out
  have h2 := blk_lt HG2.out
  have HG1 := Aside0.mk ((hb1.block G1 h1).trans HG1.out)
  have HG2 := Aside0.mk ((hb1.block G2 h2).trans HG2.out)
  have HB := Aside0.mk (HB.out.trans (hb1.mono HB.out.size))
  clear hb1
  clear x1_0 x1_1 x1_2 x1_3 x1_4 x1_5 x1_10 x1_11 x1_12 x1_14 x1_15 x1_16 x1_21 x1_6 x1_7 x1_8 x1_9 x2_0 x2_1 x2_2 x2_3 x2_4 x2_5 x2_10 x2_11 x2_12 x2_14 x2_15 x2_16 x2_21 x2_6 x2_7 x2_8 x2_9
  have x1_17 : W1.cell? ⟨G1, 17, none⟩ = some (.string t) := blk_cell HG1.out 17
  have x1_18 : W1.cell? ⟨G1, 18, none⟩ = some (.slice Am1 pp.length nm1) := blk_cell HG1.out 18
  have x1_19 : W1.cell? ⟨G1, 19, none⟩ = some (.int .i64 q) := blk_cell HG1.out 19
  have x1_20 : W1.cell? ⟨G1, 20, none⟩ = some (.bool rt) := blk_cell HG1.out 20
  have x2_17 : W1.cell? ⟨G2, 17, none⟩ = some (.string t) := blk_cell HG2.out 17
  have x2_18 : W1.cell? ⟨G2, 18, none⟩ = some (.slice Am2 pp.length nm2) := blk_cell HG2.out 18
  have x2_19 : W1.cell? ⟨G2, 19, none⟩ = some (.int .i64 q) := blk_cell HG2.out 19
  have x2_20 : W1.cell? ⟨G2, 20, none⟩ = some (.bool rt) := blk_cell HG2.out 20
  go_wp2_with fail
  refine (smsg_any ⟨t, pp, q, rt⟩ Am1 Am2 nm1 nm2 W1 (Kd.C_below HM.out.1.2 HB.out) (Kd.C_below HM.out.2.2 HB.out)).mono ?_
  rintro e W2 ⟨rfl, hb1⟩
  have h1 := blk_lt HG1.out
  have h2 := blk_lt HG2.out
  have HG1 := Aside0.mk ((hb1.block G1 h1).trans HG1.out)
  have HG2 := Aside0.mk ((hb1.block G2 h2).trans HG2.out)
  have HB := Aside0.mk (HB.out.trans (hb1.mono HB.out.size))
  clear hb1
  clear x1_17 x1_18 x1_19 x1_20 x2_17 x2_18 x2_19 x2_20
  have x1_13 : W2.cell? ⟨G1, 13, none⟩ = some (.slice Ap1 pa.length np1) := blk_cell HG1.out 13
  have x2_13 : W2.cell? ⟨G2, 13, none⟩ = some (.slice Ap2 pa.length np2) := blk_cell HG2.out 13
  go_wp2_with fail
  refine (sbytes_any pa Ap1 Ap2 np1 np2 W2 (Kd.C_below HP.out.1.2 HB.out) (Kd.C_below HP.out.2.2 HB.out)).mono ?_
  rintro e W3 ⟨rfl, hb1⟩
  have h1 := blk_lt HG1.out
  have h2 := blk_lt HG2.out
  have HG1 := Aside0.mk ((hb1.block G1 h1).trans HG1.out)
  have HG2 := Aside0.mk ((hb1.block G2 h2).trans HG2.out)
  have HB := Aside0.mk (HB.out.trans (hb1.mono HB.out.size))
  clear hb1
  clear x1_13 x2_13
  have x1_22 : W3.cell? ⟨G1, 22, none⟩ = some (.slice Aa1 asks.length na1) := blk_cell HG1.out 22
  have x1_23 : W3.cell? ⟨G1, 23, none⟩ = some (.slice Ac1 cods.length nc1) := blk_cell HG1.out 23
  have x1_24 : W3.cell? ⟨G1, 24, none⟩ = some (.slice Af1 fils.length nf1) := blk_cell HG1.out 24
  have x2_22 : W3.cell? ⟨G2, 22, none⟩ = some (.slice Aa2 asks.length na2) := blk_cell HG2.out 22
  have x2_23 : W3.cell? ⟨G2, 23, none⟩ = some (.slice Ac2 cods.length nc2) := blk_cell HG2.out 23
  have x2_24 : W3.cell? ⟨G2, 24, none⟩ = some (.slice Af2 fils.length nf2) := blk_cell HG2.out 24
  go_wp2_with fail
  have HQ := Aside0.mk (show ∀ W, Below W3.heap.size W3 W → Below w.heap.size w W from fun W h => HB.out.trans (h.mono HB.out.size))
  have HX1 := Aside0.mk (And.intro HG1.out HG2.out)
  have HAL := Aside0.mk (And.intro (show asks.length ≤ 9223372036854775807 from HAS.out.1.2.2.1) (And.intro (show cods.length ≤ 9223372036854775807 from HCD.out.1.2.2.1) (show fils.length ≤ 9223372036854775807 from HFS.out.1.2.2.1)))
  have hgs : G1 < W3.heap.size ∧ G2 < W3.heap.size := ⟨blk_lt HG1.out, blk_lt HG2.out⟩
  have HGS := Aside0.mk hgs
  clear hgs
  go_loopg [5] asks.length (fun q i wr => ∃ k : Nat, k + q = asks.length ∧ i = .int .i64 (k : Int) ∧ Aside0 (Below W3.heap.size W3 wr))
  case atStart => exact ⟨0, by omega, rfl, Aside0.mk (Below.refl _ _)⟩
  case round =>
    obtain ⟨k, hkq, rfl, HR⟩ := hrel
    clear x1_22 x1_23 x1_24 x2_22 x2_23 x2_24
    have g1 : wr.heap[G1]? = _ := (HR.out.block G1 HGS.out.1).trans HG1.out
    have g2 : wr.heap[G2]? = _ := (HR.out.block G2 HGS.out.2).trans HG2.out
    have x1_22 : wr.cell? ⟨G1, 22, none⟩ = some (.slice Aa1 asks.length na1) := blk_cell g1 22
    have x2_22 : wr.cell? ⟨G2, 22, none⟩ = some (.slice Aa2 asks.length na2) := blk_cell g2 22
    rcases Nat.lt_or_ge k asks.length with hk | hk
    · have hkl := HAL.out.1
      have t0 : decide ((k : Int) < (asks.length : Int)) = true := decide_eq_true (by omega)
      have ek : wrap64 ((k : Int) + 1) = (k : Int) + 1 := by unfold wrap64; omega
      obtain ⟨q1, rfl⟩ : ∃ q1, gk = q1 + 1 := ⟨gk - 1, by omega⟩
      obtain ⟨ad1, hA1, c10, c11⟩ := ask_at (Kd.C_below HAS.out.1.2 (HQ.out _ HR.out)) k hk hk
      obtain ⟨ad2, hA2, c20, c21⟩ := ask_at (Kd.C_below HAS.out.2.2 (HQ.out _ HR.out)) k hk hk
      subst hA1 hA2
      have c11 : wr.cell? { block := (ad1.add (k * 2)).block, off := (ad1.add (k * 2)).off + 1 } = some (.int .i64 asks[k].qos) := by
        have h3 := cell_nospot c11
        rw [Addr.add_off1] at h3
        exact h3
      have c21 : wr.cell? { block := (ad2.add (k * 2)).block, off := (ad2.add (k * 2)).off + 1 } = some (.int .i64 asks[k].qos) := by
        have h3 := cell_nospot c21
        rw [Addr.add_off1] at h3
        exact h3
      generalize asks[k] = a at *
      obtain ⟨fl, qs⟩ := a
      dsimp only at c10 c11 c20 c21
      have hlt : ((k : Int) < (asks.length : Int)) := by omega
      have h0 : (0 : Int) ≤ (k : Int) := by omega
      have HKQ := Aside0.mk hkq
      clear hkq hk hkl g1 g2
      go_wp2_with fail
      go_quiet (fail)
      go_wp2
      go_roundg q1
      case measure => exact Nat.lt_succ_self _
      case rel => exact ⟨k + 1, by have := HKQ.out; omega, by rw [show (((k + 1 : Nat) : Int)) = (k : Int) + 1 by omega]; try rw [ek], ⟨by repeat (first | exact HR.out | apply below_drew | apply pw_below_drewN)⟩⟩
    · have t0 : decide ((k : Int) < (asks.length : Int)) = false := decide_eq_false (by omega)
      have t0n : decide (k < asks.length) = false := decide_eq_false (by omega)
      clear hkq hk
      have x1_23 : wr.cell? ⟨G1, 23, none⟩ = some (.slice Ac1 cods.length nc1) := blk_cell g1 23
      have x2_23 : wr.cell? ⟨G2, 23, none⟩ = some (.slice Ac2 cods.length nc2) := blk_cell g2 23
      clear g1 g2
      go_wp2_with fail
      go_loopg [6] cods.length (fun q i wr2 => ∃ k : Nat, k + q = cods.length ∧ i = .int .i64 (k : Int) ∧ Aside0 (Below W3.heap.size W3 wr2))
      case atStart => exact ⟨0, by omega, rfl, HR⟩
      case round =>
        obtain ⟨k2, hkq, rfl, HR2⟩ := hrel
        clear x1_22 x2_22 x1_23 x2_23 HR t0 t0n
        have g1 := (HR2.out.block G1 HGS.out.1).trans HG1.out
        have g2 := (HR2.out.block G2 HGS.out.2).trans HG2.out
        have x1_23 : wr.cell? ⟨G1, 23, none⟩ = some (.slice Ac1 cods.length nc1) := blk_cell g1 23
        have x2_23 : wr.cell? ⟨G2, 23, none⟩ = some (.slice Ac2 cods.length nc2) := blk_cell g2 23
        rcases Nat.lt_or_ge k2 cods.length with hk | hk
        · have hkl := HAL.out.2.1
          have t0 : decide ((k2 : Int) < (cods.length : Int)) = true := decide_eq_true (by omega)
          have ek : wrap64 ((k2 : Int) + 1) = (k2 : Int) + 1 := by unfold wrap64; omega
          obtain ⟨q1, rfl⟩ : ∃ q1, gk = q1 + 1 := ⟨gk - 1, by omega⟩
          obtain ⟨ad1, hA1, c1⟩ := Kd.at_int (Kd.C_below HCD.out.1.2 (HQ.out _ HR2.out)) (k2 : Int) (by omega) (by omega)
          obtain ⟨ad2, hA2, c2⟩ := Kd.at_int (Kd.C_below HCD.out.2.2 (HQ.out _ HR2.out)) (k2 : Int) (by omega) (by omega)
          subst hA1 hA2
          rw [Int.toNat_natCast] at c1 c2
          generalize rd cods (k2 : Int) = x at *
          have hlt : ((k2 : Int) < (cods.length : Int)) := by omega
          have h0 : (0 : Int) ≤ (k2 : Int) := by omega
          have HKQ := Aside0.mk hkq
          clear hkq hk hkl g1 g2
          go_wp2_with fail
          go_quiet (fail)
          go_wp2
          go_roundg q1
          case measure => exact Nat.lt_succ_self _
          case rel => exact ⟨k2 + 1, by have := HKQ.out; omega, by rw [show (((k2 + 1 : Nat) : Int)) = (k2 : Int) + 1 by omega]; try rw [ek], ⟨by repeat (first | exact HR2.out | apply below_drew | apply pw_below_drewN)⟩⟩
        · have t0 : decide ((k2 : Int) < (cods.length : Int)) = false := decide_eq_false (by omega)
          have t0n : decide (k2 < cods.length) = false := decide_eq_false (by omega)
          clear hkq hk
          have x1_24 : wr.cell? ⟨G1, 24, none⟩ = some (.slice Af1 fils.length nf1) := blk_cell g1 24
          have x2_24 : wr.cell? ⟨G2, 24, none⟩ = some (.slice Af2 fils.length nf2) := blk_cell g2 24
          clear g1 g2
          go_wp2_with fail
          go_loopg [7] fils.length (fun q i wr3 => ∃ k : Nat, k + q = fils.length ∧ i = .int .i64 (k : Int) ∧ Aside0 (Below W3.heap.size W3 wr3))
          case atStart => exact ⟨0, by omega, rfl, HR2⟩
          case round =>
            obtain ⟨k3, hkq, rfl, HR3⟩ := hrel
            clear x1_23 x2_23 x1_24 x2_24 HR2 t0 t0n
            have g1 := (HR3.out.block G1 HGS.out.1).trans HG1.out
            have g2 := (HR3.out.block G2 HGS.out.2).trans HG2.out
            have x1_24 : wr.cell? ⟨G1, 24, none⟩ = some (.slice Af1 fils.length nf1) := blk_cell g1 24
            have x2_24 : wr.cell? ⟨G2, 24, none⟩ = some (.slice Af2 fils.length nf2) := blk_cell g2 24
            rcases Nat.lt_or_ge k3 fils.length with hk | hk
            · have hkl := HAL.out.2.2
              have t0 : decide ((k3 : Int) < (fils.length : Int)) = true := decide_eq_true (by omega)
              have ek : wrap64 ((k3 : Int) + 1) = (k3 : Int) + 1 := by unfold wrap64; omega
              obtain ⟨q1, rfl⟩ : ∃ q1, gk = q1 + 1 := ⟨gk - 1, by omega⟩
              obtain ⟨ad1, hA1, c1⟩ := Kd.at_string (Kd.C_below HFS.out.1.2 (HQ.out _ HR3.out)) (k3 : Int) (by omega) (by omega)
              obtain ⟨ad2, hA2, c2⟩ := Kd.at_string (Kd.C_below HFS.out.2.2 (HQ.out _ HR3.out)) (k3 : Int) (by omega) (by omega)
              subst hA1 hA2
              rw [Int.toNat_natCast] at c1 c2
              generalize rdOf ByteArray.empty fils (k3 : Int) = x at *
              have hlt : ((k3 : Int) < (fils.length : Int)) := by omega
              have h0 : (0 : Int) ≤ (k3 : Int) := by omega
              have HKQ := Aside0.mk hkq
              clear hkq hk hkl g1 g2
              go_wp2_with fail
              go_quiet (fail)
              go_wp2
              go_roundg q1
              case measure => exact Nat.lt_succ_self _
              case rel => exact ⟨k3 + 1, by have := HKQ.out; omega, by rw [show (((k3 + 1 : Nat) : Int)) = (k3 : Int) + 1 by omega]; try rw [ek], ⟨by repeat (first | exact HR3.out | apply below_drew | apply pw_below_drewN)⟩⟩
            · have t0 : decide ((k3 : Int) < (fils.length : Int)) = false := decide_eq_false (by omega)
              have t0n : decide (k3 < fils.length) = false := decide_eq_false (by omega)
              clear hkq hk g1 g2
              go_wp2
              go_ret
              exact ⟨rfl, HQ.out _ HR3.out⟩
end Go.Proofs.YthlbcgaegaoanaaGreatDoor.Cr

namespace Go.Proofs.YthlbcgaegaoanaaGreatDoor.Cr
open Go Go.RowKit Go.Proofs.YthlbcgaegaoanaaGreatDoorW.PrintWords Go.Proofs.YthlbcgaegaoanaaGreatDoorW.PrintLast Go.Proofs.YthlbcgaegaoanaaGreatDoorW.PrintMore Go.Proofs.YthlbcgaegaoanaaGreatDoor.Kinds Go.Proofs.YthlbcgaegaoanaaGreatDoor.Utf Go.Proofs.YthlbcgaegaoanaaGreatDoor.Chk Go.Proofs.YthlbcgaegaoanaaGreatDoor.Rdr
set_option linter.unusedVariables false
set_option linter.unusedSimpArgs false
theorem cell_keep {w w' : World} (hb : Below w.heap.size w w') (p : Addr) (v : Value) (h : w.cell? p = some v) : w'.cell? p = some v := by
  have hlt : p.block < w.heap.size := by
    refine Classical.byContradiction (fun hn => ?_)
    unfold World.cell? at h
    rw [Array.getElem?_eq_none (by omega)] at h
    cases h
  exact (hb.cell (p := p) hlt).trans h
theorem wpList_load_midG {P : Program} {ops : Array Oper} {rest : List Oper} {op : Oper} {a : Act} {w : World} {Q : Exit → Act → World → Prop} (hw : Region.wanted op (yielded ops a.tmps) = true) (ty : TypeId) (x : Operand) (ho : op.op = .load ty x)
    (b o : Nat) (hx : a.eval x = .pointer (some ⟨b, o, none⟩)) (cs : List Value) (d : TypeDesc) (hc : w.rangeAt b o cs)
    (hu : P.underlying ty = some d) (hd : d.isRow = true) (hi : (P.info? ty).map (·.size) = some cs.length)
    (h : wpList P ops Q rest (a.put op.dst (.agg cs.toArray)) w) : wpList P ops Q (op :: rest) a w :=
  wpList_step fun _ hK => by
    simp only [hw, if_true]
    exact wp_load_mid ty x ho b o hx cs d hc hu hd hi (hK _ _ h)
theorem in_block {W : World} {B : Nat} {i : InV} {pc : List Value} (hB : W.heap[B]? = some (.cells (inC i pc).toArray 41 (0, 0))) (hl : pc.length = 25) :
    W.cell? ⟨B, 0, none⟩ = some (.int .i64 i.what) ∧ W.cell? ⟨B, 26, none⟩ = some (.int .i64 i.code) ∧ W.cell? ⟨B, 27, none⟩ = some (.int .i64 i.err) ∧ W.rangeAt B 1 pc := by
  have hc : ∀ j, W.cell? ⟨B, j, none⟩ = (inC i pc)[j]? := fun j => by rw [blk_cell hB j, List.getElem?_toArray]
  refine ⟨hc 0, ?_, ?_, ?_⟩
  · rw [hc 26]; unfold inC; rw [List.getElem?_cons_succ, List.getElem?_append_right (by omega), hl]; rfl
  · rw [hc 27]; unfold inC; rw [List.getElem?_cons_succ, List.getElem?_append_right (by omega), hl]; rfl
  · intro j v hj
    have hlt : j < pc.length := by
      rcases Nat.lt_or_ge j pc.length with h | h
      · exact h
      · rw [List.getElem?_eq_none h] at hj; exact absurd hj (by simp)
    rw [hc (1 + j)]; unfold inC; rw [Nat.add_comm, List.getElem?_cons_succ, List.getElem?_append_left hlt]; exact hj
set_option maxRecDepth 100000 in
set_option maxHeartbeats 4000000 in
theorem sameInput_any (i : InV) (cs1 cs2 : List Value) (w : World) (h1 : kIn.K w i cs1) (h2 : kIn.K w i cs2) :
    Calls Tryz.prog 45 #[.agg cs1.toArray, .agg cs2.toArray] w fun e w' => e = .returned (.bool true) ∧ Below w.heap.size w w' := by
  obtain ⟨p1, rfl, hp1⟩ := in_K h1
  obtain ⟨p2, rfl, hp2⟩ := in_K h2
  have HP := Aside0.mk (And.intro hp1 hp2)
  have HL1 := Aside0.mk (show p1.length = 25 from kPkt.K_len hp1)
  have HL2 := Aside0.mk (show p2.length = 25 from kPkt.K_len hp2)
  have HZ1 := Aside0.mk (show (Tryz.prog.info? 38).map (·.size) = some p1.length by rw [HL1.out]; exact pktSize)
  have HZ2 := Aside0.mk (show (Tryz.prog.info? 38).map (·.size) = some p2.length by rw [HL2.out]; exact pktSize)
  clear h1 h2 hp1 hp2
  obtain ⟨c1, hc1⟩ : ∃ c, c = (inC i p1).toArray := ⟨_, rfl⟩
  obtain ⟨c2, hc2⟩ : ∃ c, c = (inC i p2).toArray := ⟨_, rfl⟩
  rw [← hc1, ← hc2]
  go_enter Tryz.func45, Tryz.ntmps45
  go_upto_region 1 with fail
  obtain ⟨W, hW⟩ : ∃ W, W = (w.alloc (.cells c1 41)).alloc (.cells c2 41) := ⟨_, rfl⟩
  have HB := Aside0.mk (show Below w.heap.size w W by rw [hW]; exact ((Below.refl _ _).alloc (Nat.le_refl _) _).alloc (by simp) _)
  have hg1 : W.heap[w.heap.size]? = some (.cells (inC i p1).toArray 41 (0, 0)) := by rw [hW, ← hc1]; exact alloc_new1 w _ _
  have hg2 : W.heap[w.heap.size + 1]? = some (.cells (inC i p2).toArray 41 (0, 0)) := by rw [hW, ← hc2]; exact alloc_new2 w _ _
  obtain ⟨a0, a26, a27, ar⟩ := in_block hg1 HL1.out
  obtain ⟨b0, b26, b27, br⟩ := in_block hg2 HL2.out
  have HR := Aside0.mk (And.intro ar br)
  refine wp_wld (w2 := W) (by rw [hW, hc1, hc2]) ?_
  clear hW hg1 hg2 hc1 hc2 ar br
  go_wp2_with (first
    | (refine wpList_load_midG (by rfl) 38 (.tmp 25) rfl w.heap.size 1 rfl p1 _ HR.out.1 Tryz.underlying38 rfl HZ1.out ?_)
    | (refine wpList_load_midG (by rfl) 38 (.tmp 27) rfl (w.heap.size + 1) 1 rfl p2 _ HR.out.2 Tryz.underlying38 rfl HZ2.out ?_)
    | (go_at_call 26; (with_reducible refine (same_any i.p p1 p2 W (kPkt.K_below HB.out HP.out.1) (kPkt.K_below HB.out HP.out.2)).mono ?_); rintro e w2 ⟨rfl, hB⟩; have HB2 := Aside0.mk hB; clear hB))
  go_ret
  exact ⟨rfl, HB.out.trans (HB2.out.mono HB.out.size)⟩
set_option maxRecDepth 100000 in
set_option maxHeartbeats 4000000 in
theorem sameInputs_any (l : List InV) (hl : l.length ≤ 1000000) (v1 v2 : Value) (w : World) (b1 b2 : Nat) (ok1 ok2 : Nat → Prop) (h1 : kIn.R 41 w b1 ok1 v1 l) (h2 : kIn.R 41 w b2 ok2 v2 l) :
    Calls Tryz.prog 16 #[v1, v2] w fun e w' => e = .returned (.bool true) ∧ Below w.heap.size w w' := by
  obtain ⟨A1, c1, hv1⟩ := Kd.R_slice h1
  obtain ⟨A2, c2, hv2⟩ := Kd.R_slice h2
  subst hv1 hv2
  have HR1 := Aside0.mk h1
  have HR2 := Aside0.mk h2
  have HL := Aside0.mk hl
  clear h1 h2 hl
  go_enter Tryz.func16, Tryz.ntmps16
  go_wp2_with fail
  go_loopg [5] l.length (fun q i wr => ∃ k : Nat, k + q = l.length ∧ i = .int .i64 (k : Int) ∧ Aside0 (Below w.heap.size w wr))
  case atStart => exact ⟨0, by omega, rfl, Aside0.mk (Below.refl _ _)⟩
  case round =>
    obtain ⟨k, hkq, rfl, HB⟩ := hrel
    rcases Nat.lt_or_ge k l.length with hk | hk
    · have t0 : decide ((k : Int) < (l.length : Int)) = true := decide_eq_true (by omega)
      have hkl := HL.out
      have ek : wrap64 ((k : Int) + 1) = (k : Int) + 1 := by unfold wrap64; omega
      obtain ⟨q1, rfl⟩ : ∃ q1, gk = q1 + 1 := ⟨gk - 1, by omega⟩
      have hp1 := Kd.R_below HR1.out HB.out
      have hp2 := Kd.R_below HR2.out HB.out
      obtain ⟨g1, n1', hx1, _⟩ := Kd.R_form hp1 (by omega)
      obtain ⟨g2, n2', hx2, _⟩ := Kd.R_form hp2 (by omega)
      injection hx1 with a1 a2 a3
      injection hx2 with a4 a5 a6
      subst a1 a4
      first | subst a2 | subst a3
      first | subst a5 | subst a6
      obtain ⟨cs1, _, hM1, hc1, _⟩ := Kd.R_elem hp1 noIn (k : Int) (by omega) (by omega)
      obtain ⟨cs2, _, hM2, hc2, _⟩ := Kd.R_elem hp2 noIn (k : Int) (by omega) (by omega)
      simp only [Int.toNat_natCast] at hM1 hc1 hM2 hc2
      have hK1 := kIn.K_of_M hM1
      have hK2 := kIn.K_of_M hM2
      have hl1 : cs1.length = 28 := kIn.K_len hK1
      have hl2 : cs2.length = 28 := kIn.K_len hK2
      have HL1 := Aside0.mk (show (Tryz.prog.info? 41).map (·.size) = some cs1.length by rw [hl1]; exact inSize)
      have HL2 := Aside0.mk (show (Tryz.prog.info? 41).map (·.size) = some cs2.length by rw [hl2]; exact inSize)
      have HSM := Aside0.mk (sameInput_any (l.getD k noIn) cs1 cs2 wr.drew (kIn.K_below (below_drew (Below.refl wr.heap.size wr)) hK1) (kIn.K_below (below_drew (Below.refl wr.heap.size wr)) hK2))
      have HC12 := Aside0.mk (show wr.rangeAt g1 (k * 28) cs1 ∧ wr.rangeAt g2 (k * 28) cs2 from ⟨hc1, hc2⟩)
      have HKQ := Aside0.mk hkq
      have hki : (k : Int) < (l.length : Int) := by omega
      have hk0 : (0 : Int) ≤ (k : Int) := by omega
      clear hM1 hM2 hK1 hK2 hp1 hp2 hl1 hl2 hc1 hc2 hkq hk hkl
      go_wp2_with fail
      have hc1 := HC12.out.1
      have hc2 := HC12.out.2
      refine start_ (n := 10) (S := fun w' => w'.rangeAt g1 (k * 28) cs1 ∧ w'.rangeAt g2 (k * 28) cs2) (ds := []) #[false, false, false, false, false, false, false, false, false, false] (by kernel_rfl) rfl rfl ⟨hc1, hc2⟩ (fun hHeld => ?_)
      refine pure_ (i := 0) (N := some 17) (v := ?_) (a' := ?_) #[true, false, false, false, false, false, false, false, false, false] rfl rfl (by kernel_rfl) (fun _ _ _ h => h) (Or.inl ⟨by rfl, ?_⟩) ?_ ?_
      rotate_left
      · intro w'
        go_simp
        with_reducible rfl
      rotate_left
      · simp only [Act.put, List.setIfInBounds_toArray, List.set_cons_zero, List.set_cons_succ, i64_w, i32_w]
        rfl
      refine pure_ (i := 1) (N := some 18) (v := ?_) (a' := ?_) #[true, true, false, false, false, false, false, false, false, false] rfl rfl (by kernel_rfl) (fun _ _ _ h => h) (Or.inl ⟨by rfl, ?_⟩) ?_ ?_
      rotate_left
      · intro w'
        go_simp
        with_reducible rfl
      rotate_left
      · simp only [Act.put, List.setIfInBounds_toArray, List.set_cons_zero, List.set_cons_succ, i64_w, i32_w]
        rfl
      refine pure_ (i := 2) (N := some 19) (v := ?_) (a' := ?_) #[true, true, true, false, false, false, false, false, false, false] rfl rfl (by kernel_rfl) (fun _ _ _ h => h) (Or.inl ⟨by rfl, ?_⟩) ?_ ?_
      rotate_left
      · intro w'
        go_simp
        with_reducible rfl
      rotate_left
      · simp only [Act.put, List.setIfInBounds_toArray, List.set_cons_zero, List.set_cons_succ, i64_w, i32_w]
        rfl
      refine pure_ (i := 4) (N := some 21) (v := ?_) (a' := ?_) #[true, true, true, false, true, false, false, false, false, false] rfl rfl (by kernel_rfl) (fun _ _ _ h => h) (Or.inl ⟨by rfl, ?_⟩) ?_ ?_
      rotate_left
      · intro w'
        go_simp
        with_reducible rfl
      rotate_left
      · simp only [Act.put, List.setIfInBounds_toArray, List.set_cons_zero, List.set_cons_succ, i64_w, i32_w]
        rfl
      refine pure_ (i := 5) (N := some 22) (v := ?_) (a' := ?_) #[true, true, true, false, true, true, false, false, false, false] rfl rfl (by kernel_rfl) (fun _ _ _ h => h) (Or.inl ⟨by rfl, ?_⟩) ?_ ?_
      rotate_left
      · intro w'
        go_simp
        with_reducible rfl
      rotate_left
      · simp only [Act.put, List.setIfInBounds_toArray, List.set_cons_zero, List.set_cons_succ, i64_w, i32_w]
        rfl
      refine pure_ (i := 6) (N := some 23) (v := ?_) (a' := ?_) #[true, true, true, false, true, true, true, false, false, false] rfl rfl (by kernel_rfl) (fun _ _ _ h => h) (Or.inl ⟨by rfl, ?_⟩) ?_ ?_
      rotate_left
      · intro w'
        go_simp
        with_reducible rfl
      rotate_left
      · simp only [Act.put, List.setIfInBounds_toArray, List.set_cons_zero, List.set_cons_succ, i64_w, i32_w]
        rfl
      refine take_ (i := 3) (N := some 20) (v := .agg cs1.toArray) (a' := ?_) #[true, true, true, true, true, true, true, false, false, false] rfl rfl (by kernel_rfl) (fun _ _ _ h => h) (yieldsIf_load_mid (by rfl) 41 (.tmp 19) rfl g1 (k * 28) (by rfl) cs1 _ (fun w' h' => h'.1) Tryz.underlying41 rfl (HL1.out)) hHeld ?_ ?_
      rotate_left
      · simp only [Act.put, List.setIfInBounds_toArray, List.set_cons_zero, List.set_cons_succ, i64_w, i32_w]
        rfl
      refine take_ (i := 7) (N := some 24) (v := .agg cs2.toArray) (a' := ?_) #[true, true, true, true, true, true, true, true, false, false] rfl rfl (by kernel_rfl) (fun _ _ _ h => h) (yieldsIf_load_mid (by rfl) 41 (.tmp 23) rfl g2 (k * 28) (by rfl) cs2 _ (fun w' h' => h'.2) Tryz.underlying41 rfl (HL2.out)) hHeld ?_ ?_
      rotate_left
      · simp only [Act.put, List.setIfInBounds_toArray, List.set_cons_zero, List.set_cons_succ, i64_w, i32_w]
        rfl
      refine one_ (i := 8) (N := some 25) #[true, true, true, true, true, true, true, true, true, false] rfl rfl (by kernel_rfl) (by decide) (fun K hK => ?_)
      refine goes_ Tryz.func45 (by kernel_rfl) rfl #[.agg cs1.toArray, .agg cs2.toArray] (by rfl) rfl rfl (by simp only [List.map_toArray, List.map_cons, List.map_nil]; rfl) ?_
      with_reducible refine (HSM.out).mono ?_
      rintro e w9 ⟨rfl, hb9⟩
      refine ⟨_, rfl, ?_⟩
      refine hK.out _ _ ⟨(fun i u hu => cell_keep hb9 _ _ (hc1 i u hu)), (fun i u hu => cell_keep hb9 _ _ (hc2 i u hu))⟩ (fun hHeld => ?_)
      clear hK K
      refine norm_ (a' := ?_) ?_ ?_
      rotate_left
      · show Act.put _ (some 25) _ = _
        simp only [Act.put, List.setIfInBounds_toArray, List.set_cons_zero, List.set_cons_succ, i64_w, i32_w]
        rfl
      refine pure_ (i := 9) (N := some 26) (v := ?_) (a' := ?_) #[true, true, true, true, true, true, true, true, true, true] rfl rfl (by kernel_rfl) (fun _ _ _ h => h) (Or.inl ⟨by rfl, ?_⟩) ?_ ?_
      rotate_left
      · intro w'
        go_simp
        with_reducible rfl
      rotate_left
      · simp only [Act.put, List.setIfInBounds_toArray, List.set_cons_zero, List.set_cons_succ, i64_w, i32_w]
        rfl
      refine done_ (by kernel_rfl) ?_
      have HZ9 := Aside0.mk (HB.out.trans (((below_drew (Below.refl wr.heap.size wr)).trans (hb9.mono (show wr.heap.size ≤ wr.drew.heap.size from Nat.le_refl _))).mono HB.out.size))
      clear hHeld hb9 hc1 hc2 HSM
      go_wp2_with fail
      go_roundg q1
      case measure => exact Nat.lt_succ_self _
      case rel => exact ⟨k + 1, by have := HKQ.out; omega, by rw [show (((k + 1 : Nat) : Int)) = (k : Int) + 1 by omega]; try rw [ek], HZ9⟩
    · have t0 : decide ((k : Int) < (l.length : Int)) = false := decide_eq_false (by omega)
      have t0n : decide (k < l.length) = false := decide_eq_false (by omega)
      clear hkq hk
      go_wp2
      go_ret
      exact ⟨rfl, HB.out⟩
end Go.Proofs.YthlbcgaegaoanaaGreatDoor.Cr

namespace Go.Proofs.YthlbcgaegaoanaaGreatDoor.Cr
open Go Go.RowKit Go.Proofs.YthlbcgaegaoanaaGreatDoorW.PrintWords Go.Proofs.YthlbcgaegaoanaaGreatDoorW.PrintLast Go.Proofs.YthlbcgaegaoanaaGreatDoorW.PrintMore Go.Proofs.YthlbcgaegaoanaaGreatDoor.Kinds Go.Proofs.YthlbcgaegaoanaaGreatDoor.Utf Go.Proofs.YthlbcgaegaoanaaGreatDoor.Chk Go.Proofs.YthlbcgaegaoanaaGreatDoor.Rdr
set_option linter.unusedVariables false
set_option linter.unusedSimpArgs false
theorem FrS.next_short {s : FrS} (h : s.Ok) (most : Int) : (s.next most).2.b.length ≤ s.b.length := by
  cases ek : (s.next most).1.ok with
  | true => have := (FrS.next_ok h most ek []).2.2.2.2.1; omega
  | false =>
    cases ef : (s.next most).1.f with
    | none => rw [(FrS.next_need h most ek ef).1]; exact Nat.le_refl _
    | some e => rw [(FrS.next_bad h most ek ef []).2.1]; exact Nat.zero_le _
theorem CoS.next_short {s : CoS} (most : Int) (h : s.fr.Ok) : (s.next most).2.fr.b.length ≤ s.fr.b.length := by
  by_cases h2 : s.st = 2
  · rw [CoS.next_over most h2]; exact Nat.le_refl _
  · rw [(CoS.next_fr most h2).1]; exact FrS.next_short h most
theorem CoS.all_short {most : Int} : ∀ (k : Nat) {s : CoS}, s.left ≤ k → s.fr.Ok → (s.all most).2.fr.b.length ≤ s.fr.b.length := by
  intro k
  induction k with
  | zero =>
    intro s hk h
    have hn : (s.next most).1.ok = false := by
      cases e : (s.next most).1.ok with
      | false => rfl
      | true => have := CoS.left_next most h e; omega
    rw [CoS.all_no hn]; exact Nat.le_refl _
  | succ k ih =>
    intro s hk h
    cases e : (s.next most).1.ok with
    | false => rw [CoS.all_no e]; exact Nat.le_refl _
    | true =>
      have hs := CoS.left_next most h e
      rw [CoS.all_ok h e]
      exact Nat.le_trans (ih (by omega) (CoS.next_ok most h)) (CoS.next_short most h)
theorem CoS.push_len (s : CoS) (m : List Int) : (s.push m).fr.b.length ≤ s.fr.b.length + m.length := by
  unfold CoS.push
  split
  · omega
  · show (s.fr.put m).b.length ≤ _
    unfold FrS.put
    split
    · omega
    · simp
theorem CoS.left_len (s : CoS) : s.left ≤ s.fr.b.length + 1 := by
  unfold CoS.left
  split <;> omega
structure CutInv (most : Int) (b : List Int) (n k a : Nat) (acc : List InV) (s : CoS) : Prop where
  le : a ≤ b.length
  held : s.fr.b.length ≤ a
  fok : s.fr.Ok
  tell : (CoS.new.push b).tells most = if k ≤ n then (acc ++ ((s.push (b.drop a)).tells most).1, ((s.push (b.drop a)).tells most).2) else (acc, s.st == 2)
theorem CutInv.start (most : Int) (b : List Int) (n : Nat) : CutInv most b n 0 0 [] CoS.new :=
  ⟨Nat.zero_le _, Nat.le_refl _, FrS.Ok.new, by rw [if_pos (Nat.zero_le _)]; rfl⟩
def cutP (b : List Int) (a t : Nat) : List Int := (b.drop a).take (t - a)
theorem cutP_len {b : List Int} {a t : Nat} (h : t ≤ b.length) : (cutP b a t).length = t - a := by
  unfold cutP; rw [List.length_take, List.length_drop]; omega
theorem cutP_bytes {b : List Int} (h : Bytes b) (a t : Nat) : Bytes (cutP b a t) := fun x hx => h.drop a x (List.mem_of_mem_take hx)
theorem cutP_app {b : List Int} {a t : Nat} (h : a ≤ t) : cutP b a t ++ b.drop t = b.drop a := by
  unfold cutP
  rw [show b.drop t = (b.drop a).drop (t - a) by rw [List.drop_drop]; congr 1; omega]
  exact List.take_append_drop _ _
theorem CutInv.next {most : Int} {b : List Int} {n k a : Nat} {acc : List InV} {s : CoS} (h : CutInv most b n k a acc s) (hb : Bytes b) (hk : k ≤ n) {t : Nat} (h1 : a ≤ t) (h2 : t ≤ b.length) (h3 : k = n → t = b.length) :
    CutInv most b n (k + 1) t (acc ++ ((s.push (cutP b a t)).all most).1) ((s.push (cutP b a t)).all most).2 := by
  have hp := CoS.push_ok h.fok (cutP_bytes hb a t)
  refine ⟨h2, ?_, CoS.all_Ok _ (Nat.le_refl _) hp, ?_⟩
  · have := CoS.all_short (most := most) _ (Nat.le_refl _) hp
    have h5 := CoS.push_len s (cutP b a t)
    rw [cutP_len h2] at h5
    have := h.held
    omega
  · rw [h.tell, if_pos hk]
    have e1 : s.push (b.drop a) = (s.push (cutP b a t)).push (b.drop t) := by rw [CoS.push_push, cutP_app h1]
    by_cases hl : k + 1 ≤ n
    · rw [if_pos hl, e1, CoS.tells_all _ (Nat.le_refl _) hp (hb.drop t), List.append_assoc]
    · have ht := h3 (by omega)
      rw [if_neg hl]
      have e2 : cutP b a t = b.drop a := by
        have := cutP_app (b := b) h1
        rw [ht, List.drop_length, List.append_nil] at this
        rw [ht]; exact this
      rw [e2]; rfl
theorem CutInv.fin {most : Int} {b : List Int} {n a : Nat} {acc : List InV} {s : CoS} (h : CutInv most b n (n + 1) a acc s) : acc = ((CoS.new.push b).all most).1 ∧ (s.st == 2) = (((CoS.new.push b).all most).2.st == 2) := by
  have := h.tell
  rw [if_neg (by omega)] at this
  exact ⟨(congrArg Prod.fst this).symm, (congrArg Prod.snd this).symm⟩
theorem CutInv.len {most : Int} {b : List Int} {n k a : Nat} {acc : List InV} {s : CoS} (h : CutInv most b n k a acc s) (hb : Bytes b) : acc.length ≤ b.length + 1 := by
  have h1 := congrArg (fun x => x.1.length) h.tell
  have h2 := CoS.all_len (most := most) _ (Nat.le_refl _) (new_ok hb)
  rw [new_left] at h2
  have h3 : ((CoS.new.push b).tells most).1.length ≤ b.length + 1 := h2
  rw [h1] at h3
  split at h3
  · simp only [List.length_append] at h3; omega
  · exact h3
end Go.Proofs.YthlbcgaegaoanaaGreatDoor.Cr

namespace Go.Proofs.YthlbcgaegaoanaaGreatDoor.Cr
open Go Go.RowKit Go.Proofs.YthlbcgaegaoanaaGreatDoorW.PrintWords Go.Proofs.YthlbcgaegaoanaaGreatDoorW.PrintLast Go.Proofs.YthlbcgaegaoanaaGreatDoorW.PrintMore Go.Proofs.YthlbcgaegaoanaaGreatDoor.Kinds Go.Proofs.YthlbcgaegaoanaaGreatDoor.Utf Go.Proofs.YthlbcgaegaoanaaGreatDoor.Chk Go.Proofs.YthlbcgaegaoanaaGreatDoor.Rdr
attribute [local go_sem] max2_int min2_int max_two min_two
set_option linter.unusedVariables false
set_option linter.unusedSimpArgs false
section
variable {w w1 : World} {base C F : Nat} {most pat : Int} {s : CoS}
theorem CoIs.apart {ok : Nat → Prop} (h : CoIs w base C F most pat s) (hf : Fr ok w w1) (hok : ∀ k, k < w.heap.size → ok k → k ≠ C ∧ k ≠ F ∧ ∃ cells t, w.heap[k]? = some (.cells cells t (0, 0)) ∧ t ≠ 5 ∧ t ≠ 121) : CoIs w1 base C F most pat s := by
  obtain ⟨v, ev, h1, h2, h3⟩ := h.fr.ex
  refine ⟨(hf.block C (blk_lt h.self) fun e => (hok C (blk_lt h.self) e).1 rfl).trans h.self, ⟨⟨v, ev, (hf.block F (blk_lt h1) fun e => (hok F (blk_lt h1) e).2.1 rfl).trans h1, h2.fr hf (fun k hk e => ?_), h3.fr hf (fun k hk e => ?_)⟩, h.fr.ge, h.fr.ok⟩, h.ge⟩
  · obtain ⟨_, _, cells, t, hc, a, _⟩ := hok k hk e; exact ⟨cells, t, hc, a⟩
  · obtain ⟨_, _, cells, t, hc, _, a⟩ := hok k hk e; exact ⟨cells, t, hc, a⟩
end
theorem cut_next (cuts : List Int) (k a len : Nat) (ha : a ≤ len) (hl : len ≤ 65536) : ∃ t : Nat, a ≤ t ∧ t ≤ len ∧ (k = cuts.length → t = len) ∧ (¬ k < cuts.length → t = len) ∧ (k < cuts.length → ∃ y : Int, (if rd cuts (k : Int) < 0 then 0 else rd cuts (k : Int)) = y ∧ 0 ≤ y ∧ wrap64 ((a : Int) + y % 65537) = (a : Int) + y % 65537 ∧ ((len : Int) < (a : Int) + y % 65537 → t = len) ∧ (¬ (len : Int) < (a : Int) + y % 65537 → (a : Int) + y % 65537 = (t : Int))) := by
  by_cases h : k < cuts.length
  · obtain ⟨y, hy⟩ : ∃ y, (if rd cuts (k : Int) < 0 then 0 else rd cuts (k : Int)) = y := ⟨_, rfl⟩
    have hy0 : 0 ≤ y := by rw [← hy]; split <;> omega
    have hs : wrap64 ((a : Int) + y % 65537) = (a : Int) + y % 65537 := by unfold wrap64; omega
    by_cases hc : (len : Int) < (a : Int) + y % 65537
    · exact ⟨len, ha, Nat.le_refl _, fun e => by omega, fun e => absurd h e, fun _ => ⟨y, hy, hy0, hs, fun _ => rfl, fun e => absurd hc e⟩⟩
    · exact ⟨((a : Int) + y % 65537).toNat, by omega, by omega, fun e => by omega, fun e => absurd h e, fun _ => ⟨y, hy, hy0, hs, fun e => absurd e hc, fun _ => by omega⟩⟩
  · exact ⟨len, ha, Nat.le_refl _, fun _ => rfl, fun _ => rfl, fun e => absurd e h⟩
structure CutAt (w1 : World) (bD z : Nat) (C F D G : Nat) (most pat : Int) (s2 : CoS) (l : List InV) (vw : Value) (b : List Int) (n : Nat) (wr : World) (v : Value) (k a : Nat) (acc : List InV) (s : CoS) : Prop where
  kc : Keep w1 w1.heap.size C F most pat s2 wr
  kd : Keep w1 bD D G most pat s wr
  want : kIn.R 41 wr bD (fun j => bD ≤ j ∧ j < z ∧ j ≠ D ∧ j ≠ G) vw l
  got : kIn.R 41 wr z (fun j => z ≤ j) v acc
  inv : CutInv most b n k a acc s
  size : z ≤ wr.heap.size
theorem ne_typed {W : World} {k t1 t2 : Nat} {c1 c2 : Array Value} (h1 : W.heap[k]? = some (.cells c1 t1 (0, 0))) (h2 : W.heap[k]? = some (.cells c2 t2 (0, 0))) : t1 = t2 := by
  rw [h1] at h2; injection h2 with h2; injection h2
section
variable {w1 wr w2 : World} {bD z C F D G : Nat} {most pat : Int} {s2 s s' : CoS} {l acc : List InV} {vw v : Value} {b : List Int} {n k a : Nat}
theorem CutAt.below (h : CutAt w1 bD z C F D G most pat s2 l vw b n wr v k a acc s) (hb : Below wr.heap.size wr w2) : CutAt w1 bD z C F D G most pat s2 l vw b n w2 v k a acc s :=
  ⟨h.kc.below hb, h.kd.below hb, Kd.R_below h.want hb, Kd.R_below h.got hb, h.inv, Nat.le_trans h.size hb.size⟩
theorem Keep.other (hc : Keep w1 w1.heap.size C F most pat s2 wr) (hd : CoIs wr bD D G most pat s) (hlt : C < bD ∧ F < bD) (hb : w1.heap.size ≤ bD) (hf : Fr (okC D G) wr w2) : Keep w1 w1.heap.size C F most pat s2 w2 := by
  have h1 := hd.ge
  have h2 := hd.fr.ge
  refine ⟨hc.co.apart hf ?_, hf.below hc.bel (fun k e => by rcases e with e | e <;> omega) hc.bel.size⟩
  rintro k hk (rfl | rfl)
  · exact ⟨by omega, by omega, _, _, hd.self, by decide, by decide⟩
  · obtain ⟨cells, hg⟩ := hd.fr.self
    exact ⟨by omega, by omega, cells, _, hg, by decide, by decide⟩
end
section
variable {w1 wr w2 : World} {bD z C F D G : Nat} {most pat : Int} {s2 s s' : CoS} {l acc : List InV} {vw v v1 : Value} {b : List Int} {n k a t : Nat}
theorem CutAt.call (h : CutAt w1 bD z C F D G most pat s2 l vw b n wr v k a acc s) (hlt : C < bD ∧ F < bD) (hb : w1.heap.size ≤ bD) (hd : D < z ∧ G < z) (hk : Keep w1 bD D G most pat s' w2) (hf : Fr (okC D G) wr w2) :
    Keep w1 w1.heap.size C F most pat s2 w2 ∧ Keep w1 bD D G most pat s' w2 ∧ kIn.R 41 w2 bD (fun j => bD ≤ j ∧ j < z ∧ j ≠ D ∧ j ≠ G) vw l ∧ kIn.R 41 w2 z (fun j => z ≤ j) v acc ∧ z ≤ w2.heap.size :=
  ⟨Keep.other h.kc h.kd.co hlt hb hf, hk, Kd.R_step h.want (fun j hj hl => hf.block j hl (fun e => by rcases e with e | e <;> omega)), Kd.R_step h.got (fun j hj hl => hf.block j hl (fun e => by rcases e with e | e <;> omega)), Nat.le_trans h.size hf.size⟩
theorem CoIs.grown {base : Nat} (h : CoIs wr base C F most pat s) (hg : wr.grownBy w2 v.ownBlock) {ys : List Value} {m sz : Nat} (ho : wr.ownsRow z 41 sz v m ys) : CoIs w2 base C F most pat s :=
  h.frm (ok := fun k => some k = v.ownBlock) ⟨hg.os, hg.tape, hg.output, hg.size, fun k hk hn => hg.block k hk hn⟩ (fun k hk e => by
    obtain ⟨cells, hc⟩ := own_typed ho k e.symm
    exact ⟨cells, _, hc, by decide, by decide, by decide, by decide⟩)
end
set_option maxRecDepth 100000 in
set_option maxHeartbeats 4000000 in
theorem cuts_any {w : World} (hg : Gl w) (most : Int) (b : List Int) (A : Option Addr) (n c : Nat) (hn : n = b.length) (hlc : b.length ≤ c) (hr : (Kd.int .u8).C w A b.length b) (hb : Bytes b) (cuts : List Int) (A2 : Option Addr) (n2 c2 : Nat) (hn2 : n2 = cuts.length) (hr2 : (Kd.int .i64).C w A2 cuts.length cuts) :
    Calls Tryz.prog 3 #[.int .i64 most, .slice A n c, .slice A2 n2 c2] w fun e w' => e = .returned (.bool true) ∧ Below w.heap.size w w' := by
  subst hn hn2
  have HG := Aside0.mk hg
  have HRB := Aside0.mk hr
  have HRC := Aside0.mk hr2
  have HBB := Aside0.mk hb
  have HCC := Aside0.mk hlc
  clear hg hr hb hr2 hlc
  go_enter Tryz.func3, Tryz.ntmps3
  go_upto_region 3 with (go_at_call 12; (with_reducible refine (known_any HG.out).mono ?_); rintro e w1 ⟨rfl, hB⟩; have HB := Aside0.mk hB; clear hB)
  by_cases hlen : 65536 < b.length
  · have t1 : decide (65536 < (b.length : Int)) = true := decide_eq_true (by omega)
    clear hlen
    go_wp2
    go_ret
    exact ⟨rfl, HB.out⟩
  · have t1 : decide (65536 < (b.length : Int)) = false := decide_eq_false (by omega)
    have HL := Aside0.mk (show b.length ≤ 65536 by omega)
    clear hlen
    by_cases hlen2 : 300 < cuts.length
    · have t2 : decide (300 < (cuts.length : Int)) = true := decide_eq_true (by omega)
      clear hlen2
      go_wp2
      go_ret
      exact ⟨rfl, HB.out⟩
    · have t2 : decide (300 < (cuts.length : Int)) = false := decide_eq_false (by omega)
      have HL2 := Aside0.mk (show cuts.length ≤ 300 by omega)
      clear hlen2
      go_upto_region 5 with fail
      go_upto_region 8 with (first
        | (have _ := HK2.out; go_at_call 13; refine (keep_new most 0 _).mono ?_; rintro e w3 ⟨D, G, rfl, hD⟩; have HD3 := Aside0.mk hD; clear hD)
        | (go_at_call 13; refine (keep_new most 0 _).mono ?_; rintro e w2 ⟨C, F, rfl, hK⟩; have HK2 := Aside0.mk hK; clear hK))
      have HK3 := Aside0.mk (HK2.out.below HD3.out.bel)
      have HCF := Aside0.mk (show C < w2.heap.size ∧ F < w2.heap.size from ⟨blk_lt HK2.out.co.self, HK2.out.co.fr.lt⟩)
      have HS12 := Aside0.mk (show w1.heap.size ≤ w2.heap.size from HK2.out.bel.size)
      have HD3 := Aside0.mk (show Keep w1 w2.heap.size D G most (max 0 0) CoS.new w3 from ⟨HD3.out.co, HK3.out.bel⟩)
      generalize w2.heap.size = bD at *
      go_wp2_with (at_builtin; go_loud (refine print_append_row (w0 := w3) w3.heap.size rfl (.const (.slice none 0 0)) (.tmp 38) 22 5 .u8 1 rfl Tryz.underlying22 infoU8 (by omega) (.slice none 0 0) [] b A b.length c rfl rfl (own_nil _ _ _ _) (Kd.reads_of_C (d := (0 : Int)) (Kd.C_below (Kd.C_below HRB.out HB.out) HK3.out.bel)) (Below.refl _ _) (Nat.le_refl _) (by have := HL.out; simp; omega) ?_))
      intro v1 w4 hown hb4 hg4 hat4
      obtain ⟨A4, c4, rfl, hC4⟩ := own_C hown
      have HC4 := Aside0.mk hC4
      have HK4 := Aside0.mk (HK3.out.below hb4)
      have HD4 := Aside0.mk (HD3.out.below hb4)
      clear hown hb4 hg4 hat4 hC4
      go_upto_region 9 with (go_at_call 14; refine (keep_push HK4.out (Nat.le_refl _) b _ _ _ rfl HC4.out HBB.out (by have := HL.out; show 0 + b.length ≤ _; omega) _ rfl).mono ?_; rintro e w5 ⟨rfl, hK, hF⟩; have HK5 := Aside0.mk hK; have HF5 := Aside0.mk hF; clear hK hF)
      have HD5 := Aside0.mk (show Keep w1 bD D G most (max 0 0) CoS.new w5 from ⟨HD4.out.co.high HF5.out (fun k e => by have := HCF.out; rcases e with e | e <;> omega), HK5.out.bel⟩)
      clear HK2 HK3 HD3 HK4 HD4 HC4 HF5
      have hn1 : wrap64 ((b.length : Int) + 1) = (b.length : Int) + 1 := by have := HL.out; unfold wrap64; omega
      obtain ⟨s, hs⟩ : ∃ s, s = CoS.new.push b := ⟨_, rfl⟩
      obtain ⟨l, hl⟩ : ∃ l, l = (s.all most).1 := ⟨_, rfl⟩
      obtain ⟨s2, hs2⟩ : ∃ s2, s2 = (s.all most).2 := ⟨_, rfl⟩
      have HALL := Aside0.mk (show Calls Tryz.prog 15 #[.pointer (some ⟨C, 0, none⟩), .int .i64 ((b.length : Int) + 1)] w5 fun e w' => ∃ v, e = .returned (.tuple #[v, .bool true]) ∧ kIn.R 41 w' w5.heap.size (fun k => w5.heap.size ≤ k) v l ∧ Keep w1 w1.heap.size C F most (max 0 0) s2 w' ∧ Fr (okC C F) w5 w' by
        rw [hl, hs2]
        have h4 := HK5.out
        rw [← hs] at h4
        have hb := HL.out
        exact all_any (HG.out.below HB.out HG.out.sz HB.out.size) h4 (Nat.le_refl _) _ (by rw [hs, new_left]; omega) (by rw [hs, new_left]; omega) (by omega))
      have HFIN := Aside0.mk (show l = ((CoS.new.push b).all most).1 ∧ s2 = ((CoS.new.push b).all most).2 from by rw [hl, hs2, hs]; exact ⟨rfl, rfl⟩)
      clear hs hl hs2
      go_upto_region 12 with (go_at_call 15; (with_reducible refine (HALL.out).mono ?_); rintro e w6 ⟨v, rfl, hR, hK, hF⟩; have HR6 := Aside0.mk hR; have HK6 := Aside0.mk hK; have HF6 := Aside0.mk hF; clear hR hK hF; dsimp only)
      have HD6 := Aside0.mk (show Keep w1 bD D G most (max 0 0) CoS.new w6 from ⟨HD5.out.co.high HF6.out (fun k e => by have := HCF.out; rcases e with e | e <;> omega), HK6.out.bel⟩)
      obtain ⟨z, hz⟩ : ∃ z, z = w6.heap.size := ⟨_, rfl⟩
      have HDG := Aside0.mk (show D < w5.heap.size ∧ G < w5.heap.size ∧ bD ≤ w5.heap.size ∧ bD ≤ D ∧ bD ≤ G ∧ w5.heap.size ≤ z from ⟨blk_lt HD5.out.co.self, HD5.out.co.fr.lt, by have := blk_lt HD5.out.co.self; have := HD5.out.co.ge; omega, HD5.out.co.ge, HD5.out.co.fr.ge, by rw [hz]; exact HF6.out.size⟩)
      have HCA := Aside0.mk (show CutAt w1 bD z C F D G most (max 0 0) s2 l v b cuts.length w6 (.slice none 0 0) 0 0 [] CoS.new from
        ⟨HK6.out, HD6.out, Kd.R_lower (Kd.R_mono (Kd.R_bound HR6.out) (fun k hk => by have := HDG.out; have h1 := hk.1; have h2 := hk.2.2.1; rw [hz]; exact ⟨by omega, h2, by omega, by omega⟩)) HDG.out.2.2.1, Kd.R_nil _ _ _ _ _, CutInv.start _ _ _, by rw [hz]; exact Nat.le_refl _⟩)
      have HLT := Aside0.mk (show C < bD ∧ F < bD from HCF.out)
      clear hn1 HK6 HD6 HR6 HF6 HD5 HK5 HALL hz HCF
      go_wp2_with fail
      go_loopg [11, 12, 13] (cuts.length + 1) (fun q g at_ i wr => ∃ (k a : Nat) (acc : List InV) (sD : CoS) (v0 : Value), v0 = g ∧ at_ = .int .i64 (a : Int) ∧ i = .int .i64 (k : Int) ∧ k + q = cuts.length + 1 ∧ Aside0 (CutAt w1 bD z C F D G most (max 0 0) s2 l v b cuts.length wr v0 k a acc sD))
      case atStart => exact ⟨0, 0, [], CoS.new, _, rfl, rfl, rfl, by omega, HCA⟩
      case round =>
        obtain ⟨k, a, acc, sD, v0, rfl, rfl, rfl, hkq, HA⟩ := hrel
        clear HCA
        rcases Nat.lt_or_ge cuts.length k with hk | hk
        · have t0 : decide ((k : Int) ≤ (cuts.length : Int)) = false := decide_eq_false (by omega)
          have t0n : decide (k ≤ cuts.length) = false := decide_eq_false (by omega)
          have hke : k = cuts.length + 1 := by omega
          subst hke
          have hf := HA.out.inv.fin
          obtain ⟨ov, hov⟩ : ∃ ov, ov = (s2.st == 2) := ⟨_, rfl⟩
          have HO1 := Aside0.mk hov.symm
          have HO2 := Aside0.mk (show (sD.st == 2) = ov by rw [hf.2, hov, HFIN.out.2])
          have HGT := Aside0.mk (show kIn.R 41 wr z (fun j => z ≤ j) v0 l by rw [HFIN.out.1, ← hf.1]; exact HA.out.got)
          have HLL := Aside0.mk (show l.length ≤ 1000000 by have := HA.out.inv.len HBB.out; rw [hf.1, ← HFIN.out.1] at this; have := HL.out; omega)
          have tq : (ov == ov) = true := by cases ov <;> rfl
          clear hk hkq hf hov
          go_wp2_with (first
            | (go_at_call 16; (with_reducible refine (sameInputs_any l HLL.out v0 v wr z bD _ _ HGT.out HA.out.want).mono ?_); rintro e w7 ⟨rfl, hB⟩; have HB7 := Aside0.mk hB; clear hB)
            | (go_at_call 17; (with_reducible refine (keep_over (HA.out.kc.below HB7.out) ov HO1.out).mono ?_); rintro e w8 ⟨rfl, rfl⟩)
            | (go_at_call 17; (with_reducible refine (keep_over (HA.out.kd.below HB7.out) ov HO2.out).mono ?_); rintro e w8 ⟨rfl, rfl⟩))
          go_ret
          exact ⟨rfl, HB.out.trans ((HA.out.kc.below HB7.out).bel.mono HB.out.size)⟩
        · have t0 : decide ((k : Int) ≤ (cuts.length : Int)) = true := decide_eq_true (by omega)
          have t0n : decide (k ≤ cuts.length) = true := decide_eq_true (by omega)
          obtain ⟨q1, rfl⟩ : ∃ q1, gk = q1 + 1 := ⟨gk - 1, by omega⟩
          have HKQ := Aside0.mk hkq
          have HKL := Aside0.mk hk
          clear hkq hk
          obtain ⟨t, ht1, ht2, ht3, ht4, ht5⟩ := cut_next cuts k a b.length HA.out.inv.le HL.out
          go_upto_if 62 with fail
          go_cut [14] (fun s14 wx => s14 = .int .i64 (t : Int) ∧ wx = wr)
          case first =>
            rcases Nat.lt_or_ge k cuts.length with hlt | hge
            · obtain ⟨y, e1, e2, e3, e4, e5⟩ := ht5 hlt
              obtain ⟨ad, hA2, c1⟩ := Kd.at_int (Kd.C_below (Kd.C_below HRC.out HB.out) HA.out.kc.bel) (k : Int) (by omega) (by omega)
              subst hA2
              rw [Int.toNat_natCast] at c1
              generalize rd cuts (k : Int) = x at *
              have p1 : ((k : Int) < (cuts.length : Int)) := by omega
              have p2 : decide ((k : Int) < (cuts.length : Int)) = true := decide_eq_true p1
              have p0 : (0 : Int) ≤ (k : Int) := by omega
              by_cases hc : (b.length : Int) < (a : Int) + y % 65537
              · have htl := e4 hc
                clear ht1 ht2 ht3 ht4 ht5 e4 e5 hlt t0 t0n
                go_wp2_with fail
                all_goals
                  go_meet
                  case rel => exact ⟨by first | (rw [htl]; done) | (exfalso; omega), rfl⟩
              · have htl := e5 hc
                have wt : wrap64 (t : Int) = (t : Int) := by have := HL.out; unfold wrap64; omega
                clear ht1 ht2 ht3 ht4 ht5 e4 e5 hlt t0 t0n
                go_wp2_with fail
                all_goals
                  go_meet
                  case rel => exact ⟨by first | rfl | (rw [← htl]; done) | (rw [wt]; done) | (exfalso; omega), rfl⟩
            · have p2 : decide ((k : Int) < (cuts.length : Int)) = false := decide_eq_false (by omega)
              have p2n : decide (k < cuts.length) = false := decide_eq_false (by omega)
              have htl := ht4 (by omega)
              clear ht1 ht2 ht3 ht4 ht5 t0 t0n
              go_wp2_with fail
              all_goals first
                | (exfalso; omega)
                | (go_meet; case rel => exact ⟨by rw [htl], rfl⟩)
          case rest =>
            obtain ⟨rfl, rfl⟩ := hcut
            have HT := Aside0.mk (And.intro ht1 (And.intro ht2 ht3))
            clear ht1 ht2 ht3 ht4 ht5 t0 t0n
            have cA : 0 ≤ (a : Int) ∧ (a : Int) ≤ max (t : Int) 0 := ⟨by omega, by have := HT.out.1; omega⟩
            have cB : (t : Int) ≤ (c : Int) := by have := HT.out.2.1; have := HCC.out; omega
            have cC : (0 : Int) ≤ (t : Int) := by omega
            obtain ⟨p, hp⟩ : ∃ p, p = cutP b a t := ⟨_, rfl⟩
            have hmid := Kd.C_mid (k := Kd.int .u8) (c := c) (lo := a) (hi := t) (Kd.C_below (Kd.C_below HRB.out HB.out) HA.out.kc.bel) HT.out.1 HT.out.2.1 HCC.out
            rw [show (b.take t).drop a = p by rw [hp]; unfold cutP; rw [List.drop_take], show (a * (Kd.int .u8).sz) = a from Nat.mul_one _] at hmid
            obtain ⟨A', hA'⟩ : ∃ A', (if c = a then A else Option.map (fun x => x.add a) A) = A' := ⟨_, rfl⟩
            rw [hA'] at hmid
            have hpl : t - a = p.length := by rw [hp, cutP_len HT.out.2.1]
            have HP := Aside0.mk hp
            have HPL := Aside0.mk hpl
            rw [← hpl] at hmid
            have HM := Aside0.mk hmid
            have HPB := Aside0.mk (show Bytes p by rw [hp]; exact cutP_bytes HBB.out a t)
            clear hp hmid hpl
            obtain ⟨r, hr⟩ : ∃ r, r = (sD.push p).all most := ⟨_, rfl⟩
            have HINV := Aside0.mk (show CutInv most b cuts.length (k + 1) t (acc ++ r.1) r.2 by rw [hr, HP.out]; exact HA.out.inv.next HBB.out HKL.out HT.out.1 HT.out.2.1 HT.out.2.2)
            have hn1 : wrap64 ((b.length : Int) + 1) = (b.length : Int) + 1 := by have := HL.out; unfold wrap64; omega
            have HALL := Aside0.mk (show ∀ w8 : World, Keep w1 bD D G most (max 0 0) (sD.push p) w8 → Calls Tryz.prog 15 #[.pointer (some ⟨D, 0, none⟩), .int .i64 (wrap64 ((b.length : Int) + 1))] w8 fun e w' => ∃ v, e = .returned (.tuple #[v, .bool true]) ∧ kIn.R 41 w' w8.heap.size (fun k => w8.heap.size ≤ k) v r.1 ∧ Keep w1 bD D G most (max 0 0) r.2 w' ∧ Fr (okC D G) w8 w' from fun w8 h8 => by
              rw [hr, hn1]
              have hb := HL.out
              have h1 := CoS.left_len (sD.push p)
              have h2 := CoS.push_len sD p
              have h3 := HA.out.inv.held
              have h4 := HPL.out
              have h5 := HT.out
              exact all_any (HG.out.below HB.out HG.out.sz HB.out.size) h8 HS12.out _ (by omega) (by omega) (by omega))
            clear hr hn1
            go_upto_region 20 with fail
            go_wp2_with (at_builtin; go_loud (refine print_append_row (w0 := wc) wc.heap.size rfl (.const (.slice none 0 0)) (.tmp 78) 22 5 .u8 1 rfl Tryz.underlying22 infoU8 (by omega) (.slice none 0 0) [] p A' (t - a) (c - a) rfl rfl (own_nil _ _ _ _) (Kd.reads_of_C (d := (0 : Int)) HM.out) (Below.refl _ _) (Nat.le_refl _) (by have := HL.out; have := HPL.out; have := HT.out; simp; omega) ?_))
            intro v7 w7 hown hb7 hg7 hat7
            obtain ⟨A7, c7, rfl, hC7⟩ := own_C (xs := p) hown
            have HC7 := Aside0.mk hC7
            have HA7 := Aside0.mk (HA.out.below hb7)
            clear hown hb7 hg7 hat7 hC7 hA'
            go_upto_region 21 with (go_at_call 14; refine (keep_push HA7.out.kd HS12.out p _ _ _ rfl HC7.out HPB.out (by have := HA.out.inv.held; have := HA.out.inv.le; have := HL.out; have := HPL.out; have := HT.out; omega) _ rfl).mono ?_; rintro e w8 ⟨rfl, hK, hF⟩; have HK8 := Aside0.mk hK; have HF8 := Aside0.mk hF; clear hK hF)
            have HA8 := Aside0.mk (HA7.out.call HLT.out HS12.out (by have := HDG.out; omega) HK8.out HF8.out)
            clear HC7 HM HK8 HF8 cA cB cC
            go_upto_region 23 with (go_at_call 15; (with_reducible refine (HALL.out w8 HA8.out.2.1).mono ?_); rintro e w9 ⟨v9, rfl, hR, hK, hF⟩; have HR9 := Aside0.mk hR; have HK9 := Aside0.mk hK; have HF9 := Aside0.mk hF; clear hR hK hF; dsimp only)
            have hZ8 : z ≤ w8.heap.size := HA8.out.2.2.2.2
            have HZ9 := Aside0.mk (show z ≤ w9.heap.size from Nat.le_trans hZ8 HF9.out.size)
            have HC9 := Aside0.mk (show Keep w1 w1.heap.size C F most (max 0 0) s2 w9 from Keep.other HA8.out.1 HA8.out.2.1.co HLT.out HS12.out HF9.out)
            have HW9 := Aside0.mk (Kd.R_step HA8.out.2.2.1 (fun j hj hl => HF9.out.block j hl (fun e => by rcases e with e | e <;> omega)))
            have HG9 := Aside0.mk (show kIn.R 41 w9 z (fun j => z ≤ j) v0 acc from Kd.R_step HA8.out.2.2.2.1 (fun j hj hl => HF9.out.block j hl (fun e => by have := HDG.out; rcases e with e | e <;> omega)))
            obtain ⟨A9, c9, hv9, _, hrr⟩ := OwnRow.reads HR9.out.2
            subst hv9
            have HRR := Aside0.mk hrr
            have HOK := Aside0.mk (show ∀ k', (w8.heap.size ≤ k' ∧ some k' ≠ (Value.slice A9 r.1.length c9).ownBlock) → z ≤ k' ∧ some k' ≠ v0.ownBlock from fun k' hk' => ⟨Nat.le_trans hZ8 hk'.1, fun e => by
              obtain ⟨_, ho⟩ := Kd.R_own HA8.out.2.2.2.1
              have := own_lt ho k' e.symm
              have := hk'.1
              omega⟩)
            have HAL := Aside0.mk (show acc.length + r.1.length ≤ 65537 by have := HINV.out.len HBB.out; rw [List.length_append] at this; have := HL.out; omega)
            clear hrr hZ8
            go_wp2_with (at_builtin; go_loud (refine Kd.R_append_rows kIn (w0 := w9) (W := w9) z rfl (.tmp 92) (.tmp 93) 28 41 (.agg inCells0) 352 rfl Tryz.underlying28 infoIn rfl (by decide) (by omega) _ acc r.1 A9 r.1.length c9 (fun k => z ≤ k) (fun k => w8.heap.size ≤ k ∧ some k ≠ (Value.slice A9 r.1.length c9).ownBlock) rfl rfl HG9.out HRR.out ?km HOK.out ?fresh (Below.refl _ _) HZ9.out ?hl ?_))
            case km => exact fun x cs h => kIn.M_lower HA8.out.2.2.2.2 h
            case fresh => exact fun k' hk' => Nat.le_trans HZ9.out hk'
            case hl => have := HAL.out; omega
            intro v10 w10 hR hb10 hg10 hat10
            have HCA := Aside0.mk (show CutAt w1 bD z C F D G most (max 0 0) s2 l v b cuts.length w10 v10 (k + 1) t (acc ++ r.1) r.2 from by
              obtain ⟨_, ho⟩ := Kd.R_own HG9.out
              have hz1 : w1.heap.size ≤ z := by have := HDG.out; have := HS12.out; omega
              exact ⟨⟨CoIs.grown HC9.out.co hg10 ho, HC9.out.bel.trans (hb10.mono hz1)⟩, ⟨CoIs.grown HK9.out.co hg10 ho, HK9.out.bel.trans (hb10.mono hz1)⟩,
                Kd.R_step HW9.out (fun j hj hl => hg10.block j hl (fun e => by have := HG9.out.1 j e.symm; omega)), hR, HINV.out, Nat.le_trans HZ9.out hg10.size⟩)
            clear hR hb10 hg10 hat10
            go_wp2_with fail
            go_roundg q1
            case measure => exact Nat.lt_succ_self _
            case rel => exact ⟨k + 1, t, acc ++ r.1, r.2, _, rfl, rfl, by have := HKL.out; have := HL2.out; congr 1; unfold wrap64; omega, by have := HKQ.out; omega, HCA⟩
end Go.Proofs.YthlbcgaegaoanaaGreatDoor.Cr

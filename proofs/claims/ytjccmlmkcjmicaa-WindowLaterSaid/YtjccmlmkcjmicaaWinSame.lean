/- The walk of crierref2.Same, of two packets that read alike (without lists). No statement of the program. -/
import Derived.Test.YtjccmlmkcjmicaaWinOp
import Derived.Test.YtjccmlmkcjmicaaPWindowLaterx3
namespace Go.Proofs.Ytjccmlmkcjmicaa.Win
open Go Go.RowKit Go.Maps Go.MapKept Go.ChangeMaps Go.Proofs.YtjccmlmkcjmicaaW.PrintWords Go.Proofs.Ytjccmlmkcjmicaa.Kinds
set_option linter.unusedVariables false
set_option linter.unusedSimpArgs false

theorem sameBytes_loop (l : List Int) (hl : l.length ≤ 9223372036854775807) : ∀ (d : Nat) (i : Int), 0 ≤ i → i + d = l.length → Go.Proofs.Ytjccmlmkcjmicaa.PWindowLater.crierref2_sameBytes.l0 (d + 1) l l i = some true
  | 0, i, h0, h1 => by
    unfold Go.Proofs.Ytjccmlmkcjmicaa.PWindowLater.crierref2_sameBytes.l0
    rw [if_neg (by omega)]
  | d + 1, i, h0, h1 => by
    unfold Go.Proofs.Ytjccmlmkcjmicaa.PWindowLater.crierref2_sameBytes.l0
    rw [if_pos (by omega), if_pos h0, if_pos (by omega), if_pos rfl, show wrap64 (i + 1) = i + 1 by unfold wrap64; omega]
    exact sameBytes_loop l hl d (i + 1) (by omega) (by omega)
theorem sameBytes_self (l : List Int) (hl : l.length ≤ 9223372036854775807) : Go.Proofs.Ytjccmlmkcjmicaa.PWindowLater.crierref2_sameBytes.f (l.length + 1) l l = some true := by
  unfold Go.Proofs.Ytjccmlmkcjmicaa.PWindowLater.crierref2_sameBytes.f
  rw [if_pos rfl]
  exact sameBytes_loop l hl l.length 0 (by omega) (by omega)
theorem sameMessage_self (t : ByteArray) (l : List Int) (q : Int) (r : Bool) (hl : l.length ≤ 9223372036854775807) : Go.Proofs.Ytjccmlmkcjmicaa.PWindowLater.crierref2_SameMessage.f (l.length + 1) t l q r t l q r = some true := by
  unfold Go.Proofs.Ytjccmlmkcjmicaa.PWindowLater.crierref2_SameMessage.f
  rw [sameBytes_self l hl]
  simp

set_option maxRecDepth 100000 in
set_option maxHeartbeats 4000000 in
theorem same_any (p : Pkt) (ha : p.asks = []) (hc : p.codes = []) (hf : p.filters = []) (cs1 cs2 : List Value) (w : World) (h1 : kPkt.K w p cs1) (h2 : kPkt.K w p cs2) :
    Calls Try.prog 40 #[.agg cs1.toArray, .agg cs2.toArray] w fun e w' => e = .returned (.bool true) ∧ Below w.heap.size w w' := by
  obtain ⟨Aw1, nw1, Ap1, np1, Am1, nm1, Aa1, na1, Ac1, nc1, Af1, nf1, rfl, hw1, hp1, hm1, _, _, _⟩ := pkt_K h1
  obtain ⟨Aw2, nw2, Ap2, np2, Am2, nm2, Aa2, na2, Ac2, nc2, Af2, nf2, rfl, hw2, hp2, hm2, _, _, _⟩ := pkt_K h2
  have HW := Aside0.mk (And.intro hw1 hw2)
  have HP := Aside0.mk (And.intro hp1 hp2)
  have HM := Aside0.mk (And.intro hm1 hm2)
  clear h1 h2 hw1 hp1 hm1 hw2 hp2 hm2
  obtain ⟨pk, lv, cl, ka, ct, hwl, ⟨wt, wp, wq, wr⟩, hus, us, hpa, pa, pr, cd, dp, ⟨t, pp, q, rt⟩, pid, asks, cods, fils⟩ := p
  dsimp only at ha hc hf HW HP HM
  subst ha hc hf
  unfold pktCells
  dsimp only [List.length_nil]
  go_enter Try.func40, Try.ntmps40
  go_upto_region 1 with fail
  have HB := Aside0.mk (((Below.refl w.heap.size w).alloc (Nat.le_refl _) (.cells #[.int .i64 pk, .int .i64 lv, .bool cl, .int .i64 ka, .string ct, .bool hwl, .string wt, .slice Aw1 wp.length nw1, .int .i64 wq, .bool wr, .bool hus, .string us, .bool hpa, .slice Ap1 pa.length np1, .bool pr, .int .i64 cd, .bool dp, .string t, .slice Am1 pp.length nm1, .int .i64 q, .bool rt, .int .i64 pid, .slice Aa1 0 na1, .slice Ac1 0 nc1, .slice Af1 0 nf1] 75)).alloc (by simp) (.cells #[.int .i64 pk, .int .i64 lv, .bool cl, .int .i64 ka, .string ct, .bool hwl, .string wt, .slice Aw2 wp.length nw2, .int .i64 wq, .bool wr, .bool hus, .string us, .bool hpa, .slice Ap2 pa.length np2, .bool pr, .int .i64 cd, .bool dp, .string t, .slice Am2 pp.length nm2, .int .i64 q, .bool rt, .int .i64 pid, .slice Aa2 0 na2, .slice Ac2 0 nc2, .slice Af2 0 nf2] 75))
  have HG2 := Aside0.mk (alloc_new2 w (.cells #[.int .i64 pk, .int .i64 lv, .bool cl, .int .i64 ka, .string ct, .bool hwl, .string wt, .slice Aw1 wp.length nw1, .int .i64 wq, .bool wr, .bool hus, .string us, .bool hpa, .slice Ap1 pa.length np1, .bool pr, .int .i64 cd, .bool dp, .string t, .slice Am1 pp.length nm1, .int .i64 q, .bool rt, .int .i64 pid, .slice Aa1 0 na1, .slice Ac1 0 nc1, .slice Af1 0 nf1] 75) (.cells #[.int .i64 pk, .int .i64 lv, .bool cl, .int .i64 ka, .string ct, .bool hwl, .string wt, .slice Aw2 wp.length nw2, .int .i64 wq, .bool wr, .bool hus, .string us, .bool hpa, .slice Ap2 pa.length np2, .bool pr, .int .i64 cd, .bool dp, .string t, .slice Am2 pp.length nm2, .int .i64 q, .bool rt, .int .i64 pid, .slice Aa2 0 na2, .slice Ac2 0 nc2, .slice Af2 0 nf2] 75))
  have HG1 := Aside0.mk (alloc_new1 w (.cells #[.int .i64 pk, .int .i64 lv, .bool cl, .int .i64 ka, .string ct, .bool hwl, .string wt, .slice Aw1 wp.length nw1, .int .i64 wq, .bool wr, .bool hus, .string us, .bool hpa, .slice Ap1 pa.length np1, .bool pr, .int .i64 cd, .bool dp, .string t, .slice Am1 pp.length nm1, .int .i64 q, .bool rt, .int .i64 pid, .slice Aa1 0 na1, .slice Ac1 0 nc1, .slice Af1 0 nf1] 75) (.cells #[.int .i64 pk, .int .i64 lv, .bool cl, .int .i64 ka, .string ct, .bool hwl, .string wt, .slice Aw2 wp.length nw2, .int .i64 wq, .bool wr, .bool hus, .string us, .bool hpa, .slice Ap2 pa.length np2, .bool pr, .int .i64 cd, .bool dp, .string t, .slice Am2 pp.length nm2, .int .i64 q, .bool rt, .int .i64 pid, .slice Aa2 0 na2, .slice Ac2 0 nc2, .slice Af2 0 nf2] 75))
  generalize (w.alloc (.cells #[.int .i64 pk, .int .i64 lv, .bool cl, .int .i64 ka, .string ct, .bool hwl, .string wt, .slice Aw1 wp.length nw1, .int .i64 wq, .bool wr, .bool hus, .string us, .bool hpa, .slice Ap1 pa.length np1, .bool pr, .int .i64 cd, .bool dp, .string t, .slice Am1 pp.length nm1, .int .i64 q, .bool rt, .int .i64 pid, .slice Aa1 0 na1, .slice Ac1 0 nc1, .slice Af1 0 nf1] 75)).alloc (.cells #[.int .i64 pk, .int .i64 lv, .bool cl, .int .i64 ka, .string ct, .bool hwl, .string wt, .slice Aw2 wp.length nw2, .int .i64 wq, .bool wr, .bool hus, .string us, .bool hpa, .slice Ap2 pa.length np2, .bool pr, .int .i64 cd, .bool dp, .string t, .slice Am2 pp.length nm2, .int .i64 q, .bool rt, .int .i64 pid, .slice Aa2 0 na2, .slice Ac2 0 nc2, .slice Af2 0 nf2] 75) = W0 at *
  obtain ⟨G1, hG1⟩ : ∃ G1, w.heap.size = G1 := ⟨_, rfl⟩
  obtain ⟨G2, hG2⟩ : ∃ G2, w.heap.size + 1 = G2 := ⟨_, rfl⟩
  rw [hG1] at HG1
  rw [hG2] at HG2
  rw [hG2, hG1]
  clear hG1 hG2
  have x1_0 : W0.cell? ⟨G1, 0, none⟩ = some (.int .i64 pk) := blk_cell HG1.out 0
  have x1_1 : W0.cell? ⟨G1, 1, none⟩ = some (.int .i64 lv) := blk_cell HG1.out 1
  have x1_2 : W0.cell? ⟨G1, 2, none⟩ = some (.bool cl) := blk_cell HG1.out 2
  have x1_3 : W0.cell? ⟨G1, 3, none⟩ = some (.int .i64 ka) := blk_cell HG1.out 3
  have x1_4 : W0.cell? ⟨G1, 4, none⟩ = some (.string ct) := blk_cell HG1.out 4
  have x1_5 : W0.cell? ⟨G1, 5, none⟩ = some (.bool hwl) := blk_cell HG1.out 5
  have x1_10 : W0.cell? ⟨G1, 10, none⟩ = some (.bool hus) := blk_cell HG1.out 10
  have x1_11 : W0.cell? ⟨G1, 11, none⟩ = some (.string us) := blk_cell HG1.out 11
  have x1_12 : W0.cell? ⟨G1, 12, none⟩ = some (.bool hpa) := blk_cell HG1.out 12
  have x1_14 : W0.cell? ⟨G1, 14, none⟩ = some (.bool pr) := blk_cell HG1.out 14
  have x1_15 : W0.cell? ⟨G1, 15, none⟩ = some (.int .i64 cd) := blk_cell HG1.out 15
  have x1_16 : W0.cell? ⟨G1, 16, none⟩ = some (.bool dp) := blk_cell HG1.out 16
  have x1_21 : W0.cell? ⟨G1, 21, none⟩ = some (.int .i64 pid) := blk_cell HG1.out 21
  have x1_6 : W0.cell? ⟨G1, 6, none⟩ = some (.string wt) := blk_cell HG1.out 6
  have x1_7 : W0.cell? ⟨G1, 7, none⟩ = some (.slice Aw1 wp.length nw1) := blk_cell HG1.out 7
  have x1_8 : W0.cell? ⟨G1, 8, none⟩ = some (.int .i64 wq) := blk_cell HG1.out 8
  have x1_9 : W0.cell? ⟨G1, 9, none⟩ = some (.bool wr) := blk_cell HG1.out 9
  have x2_0 : W0.cell? ⟨G2, 0, none⟩ = some (.int .i64 pk) := blk_cell HG2.out 0
  have x2_1 : W0.cell? ⟨G2, 1, none⟩ = some (.int .i64 lv) := blk_cell HG2.out 1
  have x2_2 : W0.cell? ⟨G2, 2, none⟩ = some (.bool cl) := blk_cell HG2.out 2
  have x2_3 : W0.cell? ⟨G2, 3, none⟩ = some (.int .i64 ka) := blk_cell HG2.out 3
  have x2_4 : W0.cell? ⟨G2, 4, none⟩ = some (.string ct) := blk_cell HG2.out 4
  have x2_5 : W0.cell? ⟨G2, 5, none⟩ = some (.bool hwl) := blk_cell HG2.out 5
  have x2_10 : W0.cell? ⟨G2, 10, none⟩ = some (.bool hus) := blk_cell HG2.out 10
  have x2_11 : W0.cell? ⟨G2, 11, none⟩ = some (.string us) := blk_cell HG2.out 11
  have x2_12 : W0.cell? ⟨G2, 12, none⟩ = some (.bool hpa) := blk_cell HG2.out 12
  have x2_14 : W0.cell? ⟨G2, 14, none⟩ = some (.bool pr) := blk_cell HG2.out 14
  have x2_15 : W0.cell? ⟨G2, 15, none⟩ = some (.int .i64 cd) := blk_cell HG2.out 15
  have x2_16 : W0.cell? ⟨G2, 16, none⟩ = some (.bool dp) := blk_cell HG2.out 16
  have x2_21 : W0.cell? ⟨G2, 21, none⟩ = some (.int .i64 pid) := blk_cell HG2.out 21
  have x2_6 : W0.cell? ⟨G2, 6, none⟩ = some (.string wt) := blk_cell HG2.out 6
  have x2_7 : W0.cell? ⟨G2, 7, none⟩ = some (.slice Aw2 wp.length nw2) := blk_cell HG2.out 7
  have x2_8 : W0.cell? ⟨G2, 8, none⟩ = some (.int .i64 wq) := blk_cell HG2.out 8
  have x2_9 : W0.cell? ⟨G2, 9, none⟩ = some (.bool wr) := blk_cell HG2.out 9
  go_wp2_with fail
  refine (Go.Proofs.Ytjccmlmkcjmicaa.PWindowLater.crierref2_SameMessage.calls (wp.length + 1) wt Aw1 nw1 wp wq wr wt Aw2 nw2 wp wq wr true W0 (Kd.C_below HW.out.1.2 HB.out) HW.out.1.1 (Kd.C_below HW.out.2.2 HB.out) HW.out.2.1 (sameMessage_self wt wp wq wr HW.out.1.2.2.1)).mono ?_
  rintro e W1 ⟨rfl, hb1⟩
  have h1 := blk_lt HG1.out
  have h2 := blk_lt HG2.out
  have HG1 := Aside0.mk ((hb1.block G1 h1).trans HG1.out)
  have HG2 := Aside0.mk ((hb1.block G2 h2).trans HG2.out)
  have HB := Aside0.mk (HB.out.trans (hb1.mono HB.out.size))
  clear hb1
  clear x1_0 x1_1 x1_2 x1_3 x1_4 x1_5 x1_10 x1_11 x1_12 x1_14 x1_15 x1_16 x1_21 x1_6 x1_7 x1_8 x1_9 x2_0 x2_1 x2_2 x2_3 x2_4 x2_5 x2_10 x2_11 x2_12 x2_14 x2_15 x2_16 x2_21 x2_6 x2_7 x2_8 x2_9
  have x1_17 : W1.cell? ⟨G1, 17, none⟩ = some (.string t) := blk_cell HG1.out 17
  have x1_18 : W1.cell? ⟨G1, 18, none⟩ = some (.slice Am1 pp.length nm1) := blk_cell HG1.out 18
  have x1_19 : W1.cell? ⟨G1, 19, none⟩ = some (.int .i64 q) := blk_cell HG1.out 19
  have x1_20 : W1.cell? ⟨G1, 20, none⟩ = some (.bool rt) := blk_cell HG1.out 20
  have x2_17 : W1.cell? ⟨G2, 17, none⟩ = some (.string t) := blk_cell HG2.out 17
  have x2_18 : W1.cell? ⟨G2, 18, none⟩ = some (.slice Am2 pp.length nm2) := blk_cell HG2.out 18
  have x2_19 : W1.cell? ⟨G2, 19, none⟩ = some (.int .i64 q) := blk_cell HG2.out 19
  have x2_20 : W1.cell? ⟨G2, 20, none⟩ = some (.bool rt) := blk_cell HG2.out 20
  go_wp2_with fail
  refine (Go.Proofs.Ytjccmlmkcjmicaa.PWindowLater.crierref2_SameMessage.calls (pp.length + 1) t Am1 nm1 pp q rt t Am2 nm2 pp q rt true W1 (Kd.C_below HM.out.1.2 HB.out) HM.out.1.1 (Kd.C_below HM.out.2.2 HB.out) HM.out.2.1 (sameMessage_self t pp q rt HM.out.1.2.2.1)).mono ?_
  rintro e W2 ⟨rfl, hb1⟩
  have h1 := blk_lt HG1.out
  have h2 := blk_lt HG2.out
  have HG1 := Aside0.mk ((hb1.block G1 h1).trans HG1.out)
  have HG2 := Aside0.mk ((hb1.block G2 h2).trans HG2.out)
  have HB := Aside0.mk (HB.out.trans (hb1.mono HB.out.size))
  clear hb1
  clear x1_17 x1_18 x1_19 x1_20 x2_17 x2_18 x2_19 x2_20
  have x1_13 : W2.cell? ⟨G1, 13, none⟩ = some (.slice Ap1 pa.length np1) := blk_cell HG1.out 13
  have x2_13 : W2.cell? ⟨G2, 13, none⟩ = some (.slice Ap2 pa.length np2) := blk_cell HG2.out 13
  go_wp2_with fail
  refine (Go.Proofs.Ytjccmlmkcjmicaa.PWindowLater.crierref2_sameBytes.calls (pa.length + 1) Ap1 np1 pa Ap2 np2 pa true W2 (Kd.C_below HP.out.1.2 HB.out) HP.out.1.1 (Kd.C_below HP.out.2.2 HB.out) HP.out.2.1 (sameBytes_self pa HP.out.1.2.2.1)).mono ?_
  rintro e W3 ⟨rfl, hd⟩
  have hb1 : Below W2.heap.size W2 W3 := hd.below
  have h1 := blk_lt HG1.out
  have h2 := blk_lt HG2.out
  have HG1 := Aside0.mk ((hb1.block G1 h1).trans HG1.out)
  have HG2 := Aside0.mk ((hb1.block G2 h2).trans HG2.out)
  have HB := Aside0.mk (HB.out.trans (hb1.mono HB.out.size))
  clear hb1 hd
  clear x1_13 x2_13
  have x1_22 : W3.cell? ⟨G1, 22, none⟩ = some (.slice Aa1 0 na1) := blk_cell HG1.out 22
  have x1_23 : W3.cell? ⟨G1, 23, none⟩ = some (.slice Ac1 0 nc1) := blk_cell HG1.out 23
  have x1_24 : W3.cell? ⟨G1, 24, none⟩ = some (.slice Af1 0 nf1) := blk_cell HG1.out 24
  have x2_22 : W3.cell? ⟨G2, 22, none⟩ = some (.slice Aa2 0 na2) := blk_cell HG2.out 22
  have x2_23 : W3.cell? ⟨G2, 23, none⟩ = some (.slice Ac2 0 nc2) := blk_cell HG2.out 23
  have x2_24 : W3.cell? ⟨G2, 24, none⟩ = some (.slice Af2 0 nf2) := blk_cell HG2.out 24
  go_wp2_with fail
  go_loop [5] (fun i => i = .int .i64 0) (fun _ => 0)
  case atStart => exact rfl
  case round =>
    subst hrel
    go_wp2_with fail
    go_loop [6] (fun i => i = .int .i64 0) (fun _ => 0)
    case atStart => exact rfl
    case round =>
      subst hrel
      go_wp2_with fail
      go_loop [7] (fun i => i = .int .i64 0) (fun _ => 0)
      case atStart => exact rfl
      case round =>
        subst hrel
        go_wp2_with fail
        go_ret
        exact ⟨rfl, HB.out⟩
end Go.Proofs.Ytjccmlmkcjmicaa.Win

/- packet's foreign. No statement of the program. -/
import Derived.Test.YthlbcgaegaoanaaGreatDoorMHead
import Derived.Test.YthlbcgaegaoanaaGreatDoorMConn
import Derived.Test.YthlbcgaegaoanaaGreatDoorPSame
import Derived.Deep.DeepCutAuto
import Derived.Laws.Rows
namespace Go.Proofs.YthlbcgaegaoanaaGreatDoor.Cr
open Go Go.RowKit Go.Proofs.YthlbcgaegaoanaaGreatDoorW.PrintWords Go.Proofs.YthlbcgaegaoanaaGreatDoorW.PrintLast Go.Proofs.YthlbcgaegaoanaaGreatDoorW.PrintMore Go.Proofs.YthlbcgaegaoanaaGreatDoor.Kinds Go.Proofs.YthlbcgaegaoanaaGreatDoor.Utf Go.Proofs.YthlbcgaegaoanaaGreatDoor.Chk Go.Proofs.YthlbcgaegaoanaaGreatDoor.Rdr Go.Proofs.YthlbcgaegaoanaaGreatDoor.PConnPlays
set_option linter.unusedVariables false
set_option linter.unusedSimpArgs false
def smB (m : Msg) : Bool := (m.topic.toList == (⟨#[]⟩ : ByteArray).toList && (m.qos == 0 && (m.retain == false))) && ((strOfNums m.payload).toList == (strOfNums []).toList)
theorem sm_eval (m : Msg) : packet_sameMessage.f m.topic m.payload m.qos m.retain ⟨#[]⟩ [] 0 false = some (smB m) := by
  unfold packet_sameMessage.f packet_plainly.f bytes_Equal.f smB
  simp only [Option.bind_some]
  by_cases h : (m.topic.toList == (⟨#[]⟩ : ByteArray).toList && (m.qos == 0 && (m.retain == false))) = true
  · rw [if_pos h, h, Bool.true_and]
  · rw [if_neg h, Bool.eq_false_iff.2 h, Bool.false_and]
theorem sm_any {w : World} (m : Msg) (A : Option Addr) (c : Nat) (hc : m.payload.length ≤ c) (hr : (Kd.int .u8).C w A m.payload.length m.payload) :
    Calls Tryz.prog 99 #[.agg #[.string m.topic, .slice A m.payload.length c, .int .i64 m.qos, .bool m.retain], .agg #[.string ⟨#[]⟩, .slice none 0 0, .int .i64 0, .bool false]] w fun e w' => e = .returned (.bool (smB m)) ∧ Below w.heap.size w w' :=
  packet_sameMessage.calls m.topic A c m.payload m.qos m.retain ⟨#[]⟩ none 0 [] 0 false (smB m) w hr hc (Kd.C_nil _ _) (Nat.le_refl _) (sm_eval m)
theorem wp_wld {P : Program} {c : Code} {Q : Exit → Act → World → Prop} {a : Act} {w w2 : World} (h : w = w2) (h2 : c.wp P Q a w2) : c.wp P Q a w := h ▸ h2
def fEmp (s : ByteArray) : Bool := s.toList.isEmpty
def forB (p : Pkt) : Bool :=
  ((bits .and .i64 (pHas p) 1 == 0) && ((p.level != 0) || p.clean || (p.keep != 0) || !(fEmp p.client) || p.hasWill || p.hasUser || p.hasPass))
  || (!p.hasWill && !smB p.will) || (!p.hasUser && !(fEmp p.user)) || (!p.hasPass && decide (p.pass.length > 0))
  || ((bits .and .i64 (pHas p) 2 == 0) && (p.present || (p.code != 0))) || ((bits .and .i64 (pHas p) 4 == 0) && (p.dup || !smB p.msg))
  || (!numB p && (p.id != 0)) || ((bits .and .i64 (pHas p) 16 == 0) && decide (p.asks.length > 0)) || ((bits .and .i64 (pHas p) 32 == 0) && decide (p.codes.length > 0)) || ((bits .and .i64 (pHas p) 64 == 0) && decide (p.filters.length > 0))
set_option maxRecDepth 100000 in
set_option maxHeartbeats 4000000 in
theorem foreign_any {w : World} (hg : Gl w) (p : Pkt) (cs : List Value) (h : kPkt.K w p cs) (h0 : 1 ≤ p.kind) (h1 : p.kind ≤ 14) :
    Calls Tryz.prog 67 #[.agg cs.toArray] w fun e w' => e = .returned (.bool (forB p)) ∧ Below w.heap.size w w' := by
  obtain ⟨Aw, nw, Ap, np, Am, nm, Aa, na, Ac, nc, Af, nf, hcs, hw, hp, hm, _⟩ := pkt_K h
  have x := hg.has p.kind.toNat (by omega)
  have hs := hg.sz
  have x2 : w.cell? ⟨0, p.kind.toNat, none⟩ = some (.int .i64 (pHas p)) := x
  have q0 : (0 : Int) ≤ p.kind := by omega
  have q1 : p.kind < 15 := by omega
  have xk : (w.alloc (.cells cs.toArray 38)).cell? ⟨w.heap.size, 0, none⟩ = some (.int .i64 p.kind) := by
    have := blk_cell (heap_alloc_new w (.cells cs.toArray 38)) 0
    rw [this, hcs]; rfl
  obtain ⟨hh, hhh⟩ : ∃ hh, hh = pHas p := ⟨_, rfl⟩
  rw [← hhh] at x2
  have x3 : ∀ o, (w.alloc o).cell? ⟨0, p.kind.toNat, none⟩ = some (.int .i64 hh) := fun o => (World.cell?_alloc_past _ _ _ (by show _ < w.heap.size; exact Nat.lt_of_lt_of_le (by decide) hs)).trans x2
  obtain ⟨X, hX⟩ : ∃ X : World, X = (w.alloc (.cells cs.toArray 38)).alloc (.cells #[.string ⟨#[]⟩, .slice none 0 0, .int .i64 0, .bool false] 34) := ⟨_, rfl⟩
  have hBX : Below w.heap.size w X := by rw [hX]; exact below_alloc (below_alloc (Below.refl _ _) _) _
  have hg0 : X.heap[w.heap.size]? = some (.cells cs.toArray 38 (0, 0)) := by rw [hX]; exact (Below.heap_alloc _ _ _ (by simp)).trans (heap_alloc_new _ _)
  have hg1 : X.heap[w.heap.size + 1]? = some (.cells #[.string ⟨#[]⟩, .slice none 0 0, .int .i64 0, .bool false] 34 (0, 0)) := by
    rw [hX]; have := heap_alloc_new (w.alloc (.cells cs.toArray 38)) (.cells #[.string ⟨#[]⟩, .slice none 0 0, .int .i64 0, .bool false] 34); simpa using this
  have hkx := kPkt.K_below hBX h
  rw [hcs] at hkx hg0
  obtain ⟨c0, hc0⟩ : ∃ c : Bool, c = ((bits .and .i64 hh 1 == 0) && ((p.level != 0) || p.clean || (p.keep != 0) || !(fEmp p.client) || p.hasWill || p.hasUser || p.hasPass)) := ⟨_, rfl⟩
  obtain ⟨c1, hc1⟩ : ∃ c : Bool, c = (!p.hasWill && !smB p.will) := ⟨_, rfl⟩
  obtain ⟨c2, hc2⟩ : ∃ c : Bool, c = (!p.hasUser && !(fEmp p.user)) := ⟨_, rfl⟩
  obtain ⟨c3, hc3⟩ : ∃ c : Bool, c = (!p.hasPass && decide (p.pass.length > 0)) := ⟨_, rfl⟩
  obtain ⟨c4, hc4⟩ : ∃ c : Bool, c = ((bits .and .i64 hh 2 == 0) && (p.present || (p.code != 0))) := ⟨_, rfl⟩
  obtain ⟨c5, hc5⟩ : ∃ c : Bool, c = ((bits .and .i64 hh 4 == 0) && (p.dup || !smB p.msg)) := ⟨_, rfl⟩
  obtain ⟨c6, hc6⟩ : ∃ c : Bool, c = (!numB p && (p.id != 0)) := ⟨_, rfl⟩
  obtain ⟨c7, hc7⟩ : ∃ c : Bool, c = ((bits .and .i64 hh 16 == 0) && decide (p.asks.length > 0)) := ⟨_, rfl⟩
  obtain ⟨c8, hc8⟩ : ∃ c : Bool, c = ((bits .and .i64 hh 32 == 0) && decide (p.codes.length > 0)) := ⟨_, rfl⟩
  obtain ⟨c9, hc9⟩ : ∃ c : Bool, c = ((bits .and .i64 hh 64 == 0) && decide (p.filters.length > 0)) := ⟨_, rfl⟩
  have HFB := Aside0.mk (show forB p = (c0 || c1 || c2 || c3 || c4 || c5 || c6 || c7 || c8 || c9) by rw [hc0, hc1, hc2, hc3, hc4, hc5, hc6, hc7, hc8, hc9, hhh]; rfl)
  have HC0 := Aside0.mk hc0
  have HC1 := Aside0.mk hc1
  have HC2 := Aside0.mk hc2
  have HC3 := Aside0.mk hc3
  have HC4 := Aside0.mk hc4
  have HC5 := Aside0.mk hc5
  have HC6 := Aside0.mk hc6
  have HC7 := Aside0.mk hc7
  have HC8 := Aside0.mk hc8
  have HC9 := Aside0.mk hc9
  have HWP := Aside0.mk (And.intro hw.1 (Kd.C_below hw.2 hBX))
  have HMP := Aside0.mk (And.intro hm.1 (Kd.C_below hm.2 hBX))
  have HBX := Aside0.mk hBX
  have HG0 := Aside0.mk hg0
  have HG1 := Aside0.mk hg1
  have HKX := Aside0.mk hkx
  have HGX := Aside0.mk (hg.below hBX hg.sz hBX.size)
  have HX := Aside0.mk hX
  have HSZ := Aside0.mk (show (Tryz.prog.info? 38).map (·.size) = some (pktCells p (.slice Aw p.will.payload.length nw) (.slice Ap p.pass.length np) (.slice Am p.msg.payload.length nm) (.slice Aa p.asks.length na) (.slice Ac p.codes.length nc) (.slice Af p.filters.length nf)).toArray.size from pktSize)
  have gx0 : w.heap.size < X.heap.size := blk_lt hg0
  have gx1 : w.heap.size + 1 < X.heap.size := blk_lt hg1
  clear hs hcs hg x h hhh hX hBX hg0 hg1 hkx hw hm hp hc0 hc1 hc2 hc3 hc4 hc5 hc6 hc7 hc8 hc9
  go_enter Tryz.func67, Tryz.ntmps67
  go_upto_region 4 with fail
  refine wp_wld (w2 := X) (by rw [HX.out]) ?_
  clear x3 x2 xk
  have HP0 := Aside0.mk (((Below.refl _ _).block w.heap.size gx0).trans HG0.out)
  have b1 : X.cell? ⟨w.heap.size, 1, none⟩ = some (.int .i64 p.level) := blk_cell HP0.out 1
  have b2 : X.cell? ⟨w.heap.size, 2, none⟩ = some (.bool p.clean) := blk_cell HP0.out 2
  have b3 : X.cell? ⟨w.heap.size, 3, none⟩ = some (.int .i64 p.keep) := blk_cell HP0.out 3
  have b4 : X.cell? ⟨w.heap.size, 4, none⟩ = some (.string p.client) := blk_cell HP0.out 4
  have b5 : X.cell? ⟨w.heap.size, 5, none⟩ = some (.bool p.hasWill) := blk_cell HP0.out 5
  have b10 : X.cell? ⟨w.heap.size, 10, none⟩ = some (.bool p.hasUser) := blk_cell HP0.out 10
  have b12 : X.cell? ⟨w.heap.size, 12, none⟩ = some (.bool p.hasPass) := blk_cell HP0.out 12
  go_cut [9] (fun s wx => s = .bool c0 ∧ Aside0 (Below X.heap.size X wx))
  case first =>
    go_wp2
    all_goals
      go_meet
      case rel => exact ⟨by rw [HC0.out]; simp_all [fEmp], (by first | exact HBn | exact ⟨(Below.refl _ _)⟩)⟩
  case rest =>
    obtain ⟨rfl, HB0⟩ := hcut
    obtain ⟨wx0, hwx⟩ : ∃ wx : World, wx = wc := ⟨_, rfl⟩
    subst hwx
    clear b1 b2 b3 b4 b5 b10 b12
    cases hc0 : c0 with
    | true =>
      go_wp2
      go_ret
      exact ⟨by rw [HFB.out, hc0]; simp, HBX.out.trans (HB0.out.mono HBX.out.size)⟩
    | false =>
      go_upto_region 5 with fail
      have HP1 := Aside0.mk ((HB0.out.block w.heap.size gx0).trans HG0.out)
      have b5 : wx0.cell? ⟨w.heap.size, 5, none⟩ = some (.bool p.hasWill) := blk_cell HP1.out 5
      have b6 : wx0.cell? ⟨w.heap.size, 6, none⟩ = some (.string p.will.topic) := blk_cell HP1.out 6
      have b7 : wx0.cell? ⟨w.heap.size, 7, none⟩ = some (.slice Aw p.will.payload.length nw) := blk_cell HP1.out 7
      have b8 : wx0.cell? ⟨w.heap.size, 8, none⟩ = some (.int .i64 p.will.qos) := blk_cell HP1.out 8
      have b9 : wx0.cell? ⟨w.heap.size, 9, none⟩ = some (.bool p.will.retain) := blk_cell HP1.out 9
      have n0 : wx0.cell? ⟨w.heap.size + 1, 0, none⟩ = some (.string ⟨#[]⟩) := blk_cell ((HB0.out.block (w.heap.size + 1) gx1).trans HG1.out) 0
      have n1 : wx0.cell? ⟨w.heap.size + 1, 1, none⟩ = some (.slice none 0 0) := blk_cell ((HB0.out.block (w.heap.size + 1) gx1).trans HG1.out) 1
      have n2 : wx0.cell? ⟨w.heap.size + 1, 2, none⟩ = some (.int .i64 0) := blk_cell ((HB0.out.block (w.heap.size + 1) gx1).trans HG1.out) 2
      have n3 : wx0.cell? ⟨w.heap.size + 1, 3, none⟩ = some (.bool false) := blk_cell ((HB0.out.block (w.heap.size + 1) gx1).trans HG1.out) 3
      go_cut [44] (fun s wx => s = .bool c1 ∧ Aside0 (Below X.heap.size X wx))
      case first =>
        go_wp2_with (go_at_call 99; (with_reducible refine (sm_any p.will Aw nw HWP.out.1 (Kd.C_below HWP.out.2 HB0.out)).mono ?_); rintro e w1 ⟨rfl, hB⟩; have HBn := Aside0.mk (HB0.out.trans (hB.mono HB0.out.size)); clear hB)
        all_goals
          go_meet
          case rel => exact ⟨by rw [HC1.out]; simp_all [fEmp], (by first | exact HBn | exact ⟨HB0.out⟩)⟩
      case rest =>
        obtain ⟨rfl, HB1⟩ := hcut
        obtain ⟨wx1, hwx⟩ : ∃ wx : World, wx = wc := ⟨_, rfl⟩
        subst hwx
        clear b5 b6 b7 b8 b9 n0 n1 n2 n3
        cases hc1 : c1 with
        | true =>
          go_wp2
          go_ret
          exact ⟨by rw [HFB.out, hc0, hc1]; simp, HBX.out.trans (HB1.out.mono HBX.out.size)⟩
        | false =>
          go_upto_region 6 with fail
          have HP2 := Aside0.mk ((HB1.out.block w.heap.size gx0).trans HG0.out)
          have b10 : wx1.cell? ⟨w.heap.size, 10, none⟩ = some (.bool p.hasUser) := blk_cell HP2.out 10
          have b11 : wx1.cell? ⟨w.heap.size, 11, none⟩ = some (.string p.user) := blk_cell HP2.out 11
          go_cut [55] (fun s wx => s = .bool c2 ∧ Aside0 (Below X.heap.size X wx))
          case first =>
            go_wp2
            all_goals
              go_meet
              case rel => exact ⟨by rw [HC2.out]; simp_all [fEmp], (by first | exact HBn | exact ⟨HB1.out⟩)⟩
          case rest =>
            obtain ⟨rfl, HB2⟩ := hcut
            obtain ⟨wx2, hwx⟩ : ∃ wx : World, wx = wc := ⟨_, rfl⟩
            subst hwx
            clear b10 b11
            cases hc2 : c2 with
            | true =>
              go_wp2
              go_ret
              exact ⟨by rw [HFB.out, hc0, hc1, hc2]; simp, HBX.out.trans (HB2.out.mono HBX.out.size)⟩
            | false =>
              go_upto_region 7 with fail
              have HP3 := Aside0.mk ((HB2.out.block w.heap.size gx0).trans HG0.out)
              have b12 : wx2.cell? ⟨w.heap.size, 12, none⟩ = some (.bool p.hasPass) := blk_cell HP3.out 12
              have b13 : wx2.cell? ⟨w.heap.size, 13, none⟩ = some (.slice Ap p.pass.length np) := blk_cell HP3.out 13
              go_cut [64] (fun s wx => s = .bool c3 ∧ Aside0 (Below X.heap.size X wx))
              case first =>
                go_wp2
                all_goals
                  go_meet
                  case rel => exact ⟨by rw [HC3.out]; simp_all [fEmp], (by first | exact HBn | exact ⟨HB2.out⟩)⟩
              case rest =>
                obtain ⟨rfl, HB3⟩ := hcut
                obtain ⟨wx3, hwx⟩ : ∃ wx : World, wx = wc := ⟨_, rfl⟩
                subst hwx
                clear b12 b13
                cases hc3 : c3 with
                | true =>
                  go_wp2
                  go_ret
                  exact ⟨by rw [HFB.out, hc0, hc1, hc2, hc3]; simp, HBX.out.trans (HB3.out.mono HBX.out.size)⟩
                | false =>
                  go_upto_region 8 with fail
                  have HP4 := Aside0.mk ((HB3.out.block w.heap.size gx0).trans HG0.out)
                  have b14 : wx3.cell? ⟨w.heap.size, 14, none⟩ = some (.bool p.present) := blk_cell HP4.out 14
                  have b15 : wx3.cell? ⟨w.heap.size, 15, none⟩ = some (.int .i64 p.code) := blk_cell HP4.out 15
                  go_cut [74] (fun s wx => s = .bool c4 ∧ Aside0 (Below X.heap.size X wx))
                  case first =>
                    go_wp2
                    all_goals
                      go_meet
                      case rel => exact ⟨by rw [HC4.out]; simp_all [fEmp], (by first | exact HBn | exact ⟨HB3.out⟩)⟩
                  case rest =>
                    obtain ⟨rfl, HB4⟩ := hcut
                    obtain ⟨wx4, hwx⟩ : ∃ wx : World, wx = wc := ⟨_, rfl⟩
                    subst hwx
                    clear b14 b15
                    cases hc4 : c4 with
                    | true =>
                      go_wp2
                      go_ret
                      exact ⟨by rw [HFB.out, hc0, hc1, hc2, hc3, hc4]; simp, HBX.out.trans (HB4.out.mono HBX.out.size)⟩
                    | false =>
                      go_upto_region 9 with fail
                      have HP5 := Aside0.mk ((HB4.out.block w.heap.size gx0).trans HG0.out)
                      have b16 : wx4.cell? ⟨w.heap.size, 16, none⟩ = some (.bool p.dup) := blk_cell HP5.out 16
                      have b17 : wx4.cell? ⟨w.heap.size, 17, none⟩ = some (.string p.msg.topic) := blk_cell HP5.out 17
                      have b18 : wx4.cell? ⟨w.heap.size, 18, none⟩ = some (.slice Am p.msg.payload.length nm) := blk_cell HP5.out 18
                      have b19 : wx4.cell? ⟨w.heap.size, 19, none⟩ = some (.int .i64 p.msg.qos) := blk_cell HP5.out 19
                      have b20 : wx4.cell? ⟨w.heap.size, 20, none⟩ = some (.bool p.msg.retain) := blk_cell HP5.out 20
                      have n0 : wx4.cell? ⟨w.heap.size + 1, 0, none⟩ = some (.string ⟨#[]⟩) := blk_cell ((HB4.out.block (w.heap.size + 1) gx1).trans HG1.out) 0
                      have n1 : wx4.cell? ⟨w.heap.size + 1, 1, none⟩ = some (.slice none 0 0) := blk_cell ((HB4.out.block (w.heap.size + 1) gx1).trans HG1.out) 1
                      have n2 : wx4.cell? ⟨w.heap.size + 1, 2, none⟩ = some (.int .i64 0) := blk_cell ((HB4.out.block (w.heap.size + 1) gx1).trans HG1.out) 2
                      have n3 : wx4.cell? ⟨w.heap.size + 1, 3, none⟩ = some (.bool false) := blk_cell ((HB4.out.block (w.heap.size + 1) gx1).trans HG1.out) 3
                      go_cut [87] (fun s wx => s = .bool c5 ∧ Aside0 (Below X.heap.size X wx))
                      case first =>
                        go_wp2_with (go_at_call 99; (with_reducible refine (sm_any p.msg Am nm HMP.out.1 (Kd.C_below HMP.out.2 HB4.out)).mono ?_); rintro e w1 ⟨rfl, hB⟩; have HBn := Aside0.mk (HB4.out.trans (hB.mono HB4.out.size)); clear hB)
                        all_goals
                          go_meet
                          case rel => exact ⟨by rw [HC5.out]; simp_all [fEmp], (by first | exact HBn | exact ⟨HB4.out⟩)⟩
                      case rest =>
                        obtain ⟨rfl, HB5⟩ := hcut
                        obtain ⟨wx5, hwx⟩ : ∃ wx : World, wx = wc := ⟨_, rfl⟩
                        subst hwx
                        clear b16 b17 b18 b19 b20 n0 n1 n2 n3
                        cases hc5 : c5 with
                        | true =>
                          go_wp2
                          go_ret
                          exact ⟨by rw [HFB.out, hc0, hc1, hc2, hc3, hc4, hc5]; simp, HBX.out.trans (HB5.out.mono HBX.out.size)⟩
                        | false =>
                          go_upto_region 10 with fail
                          have HP6 := Aside0.mk ((HB5.out.block w.heap.size gx0).trans HG0.out)
                          have b21 : wx5.cell? ⟨w.heap.size, 21, none⟩ = some (.int .i64 p.id) := blk_cell HP6.out 21
                          go_cut [102] (fun s wx => s = .bool c6 ∧ Aside0 (Below X.heap.size X wx))
                          case first =>
                            go_wp2_with (first
                              | (refine wpList_load_row rfl 38 _ rfl w.heap.size rfl 38 _ (0, 0) _ HP6.out Tryz.underlying38 rfl HSZ.out ?_)
                              | (go_at_call 72; (with_reducible refine (numbered_any (HGX.out.below HB5.out (Nat.le_trans HGX.out.sz (Nat.le_refl _)) HB5.out.size) p _ (kPkt.K_below HB5.out HKX.out) h0 h1).mono ?_); rintro e w1 ⟨rfl, hB⟩; have HBn := Aside0.mk (HB5.out.trans (hB.mono HB5.out.size)); clear hB; have b21 : w1.cell? ⟨w.heap.size, 21, none⟩ = some (.int .i64 p.id) := blk_cell ((HBn.out.block w.heap.size gx0).trans HG0.out) 21))
                            all_goals
                              go_meet
                              case rel => exact ⟨by rw [HC6.out]; simp_all [fEmp], (by first | exact HBn | exact ⟨HB5.out⟩)⟩
                          case rest =>
                            obtain ⟨rfl, HB6⟩ := hcut
                            obtain ⟨wx6, hwx⟩ : ∃ wx : World, wx = wc := ⟨_, rfl⟩
                            subst hwx
                            clear b21
                            cases hc6 : c6 with
                            | true =>
                              go_wp2
                              go_ret
                              exact ⟨by rw [HFB.out, hc0, hc1, hc2, hc3, hc4, hc5, hc6]; simp, HBX.out.trans (HB6.out.mono HBX.out.size)⟩
                            | false =>
                              go_upto_region 11 with fail
                              have HP7 := Aside0.mk ((HB6.out.block w.heap.size gx0).trans HG0.out)
                              have b22 : wx6.cell? ⟨w.heap.size, 22, none⟩ = some (.slice Aa p.asks.length na) := blk_cell HP7.out 22
                              go_cut [111] (fun s wx => s = .bool c7 ∧ Aside0 (Below X.heap.size X wx))
                              case first =>
                                go_wp2
                                all_goals
                                  go_meet
                                  case rel => exact ⟨by rw [HC7.out]; simp_all [fEmp], (by first | exact HBn | exact ⟨HB6.out⟩)⟩
                              case rest =>
                                obtain ⟨rfl, HB7⟩ := hcut
                                obtain ⟨wx7, hwx⟩ : ∃ wx : World, wx = wc := ⟨_, rfl⟩
                                subst hwx
                                clear b22
                                cases hc7 : c7 with
                                | true =>
                                  go_wp2
                                  go_ret
                                  exact ⟨by rw [HFB.out, hc0, hc1, hc2, hc3, hc4, hc5, hc6, hc7]; simp, HBX.out.trans (HB7.out.mono HBX.out.size)⟩
                                | false =>
                                  go_upto_region 12 with fail
                                  have HP8 := Aside0.mk ((HB7.out.block w.heap.size gx0).trans HG0.out)
                                  have b23 : wx7.cell? ⟨w.heap.size, 23, none⟩ = some (.slice Ac p.codes.length nc) := blk_cell HP8.out 23
                                  go_cut [121] (fun s wx => s = .bool c8 ∧ Aside0 (Below X.heap.size X wx))
                                  case first =>
                                    go_wp2
                                    all_goals
                                      go_meet
                                      case rel => exact ⟨by rw [HC8.out]; simp_all [fEmp], (by first | exact HBn | exact ⟨HB7.out⟩)⟩
                                  case rest =>
                                    obtain ⟨rfl, HB8⟩ := hcut
                                    obtain ⟨wx8, hwx⟩ : ∃ wx : World, wx = wc := ⟨_, rfl⟩
                                    subst hwx
                                    clear b23
                                    cases hc8 : c8 with
                                    | true =>
                                      go_wp2
                                      go_ret
                                      exact ⟨by rw [HFB.out, hc0, hc1, hc2, hc3, hc4, hc5, hc6, hc7, hc8]; simp, HBX.out.trans (HB8.out.mono HBX.out.size)⟩
                                    | false =>
                                      go_upto_region 13 with fail
                                      have HP9 := Aside0.mk ((HB8.out.block w.heap.size gx0).trans HG0.out)
                                      have b24 : wx8.cell? ⟨w.heap.size, 24, none⟩ = some (.slice Af p.filters.length nf) := blk_cell HP9.out 24
                                      go_cut [131] (fun s wx => s = .bool c9 ∧ Aside0 (Below X.heap.size X wx))
                                      case first =>
                                        go_wp2
                                        all_goals
                                          go_meet
                                          case rel => exact ⟨by rw [HC9.out]; simp_all [fEmp], (by first | exact HBn | exact ⟨HB8.out⟩)⟩
                                      case rest =>
                                        obtain ⟨rfl, HB9⟩ := hcut
                                        obtain ⟨wx9, hwx⟩ : ∃ wx : World, wx = wc := ⟨_, rfl⟩
                                        subst hwx
                                        clear b24
                                        cases hc9 : c9 with
                                        | true =>
                                          go_wp2
                                          go_ret
                                          exact ⟨by rw [HFB.out, hc0, hc1, hc2, hc3, hc4, hc5, hc6, hc7, hc8, hc9]; simp, HBX.out.trans (HB9.out.mono HBX.out.size)⟩
                                        | false =>
                                          go_wp2
                                          go_ret
                                          exact ⟨by rw [HFB.out, hc0, hc1, hc2, hc3, hc4, hc5, hc6, hc7, hc8, hc9]; rfl, HBX.out.trans (HB9.out.mono HBX.out.size)⟩
end Go.Proofs.YthlbcgaegaoanaaGreatDoor.Cr

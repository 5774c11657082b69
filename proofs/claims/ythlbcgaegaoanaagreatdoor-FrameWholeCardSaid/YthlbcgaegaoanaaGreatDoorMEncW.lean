/- codec.text, data, marks; packet.Flags of a right packet. No statement of the program. codec.marks. No statement of the program. codec.connect: what it lays down. No statement of the program. codec.fields: what it lays down. No statement of the program. codec.Encode of every packet. No statement of the program. -/
import Derived.Test.YthlbcgaegaoanaaGreatDoorMEnc
import Derived.Test.YthlbcgaegaoanaaGreatDoorMChk
import Derived.Great.BuildSlice
import Derived.Deep.DeepCutAuto
import Derived.Deep.MidRow
namespace Go.Proofs.YthlbcgaegaoanaaGreatDoor.Cr
open Go Go.RowKit Go.Proofs.YthlbcgaegaoanaaGreatDoorW.PrintWords Go.Proofs.YthlbcgaegaoanaaGreatDoorW.PrintLast Go.Proofs.YthlbcgaegaoanaaGreatDoorW.PrintMore Go.Proofs.YthlbcgaegaoanaaGreatDoor.Kinds Go.Proofs.YthlbcgaegaoanaaGreatDoor.Utf Go.Proofs.YthlbcgaegaoanaaGreatDoor.Chk Go.Proofs.YthlbcgaegaoanaaGreatDoor.Rdr
set_option linter.unusedVariables false
set_option linter.unusedSimpArgs false
theorem ctext_any (l : List Int) (t : ByteArray) (A : Option Addr) (n c : Nat) (w : World) (hn : n = l.length) (hr : (Kd.int .u8).C w A l.length l) (hl : l.length ≤ 1099511627776) (ht : (chk t).2 = 0) (all : List Int) (hall : all = l ++ txtE t) :
    Calls Tryz.prog 111 #[.slice A n c, .string t] w fun e w' => ∃ v, e = .returned v ∧ (Kd.int .u8).R 5 w' w.heap.size (fun _ => True) v all ∧ Below w.heap.size w w' := by
  subst hn
  have HR := Aside0.mk hr
  have HALL := Aside0.mk (show all = l ++ [(t.size : Int) / 256 % 256, (t.size : Int) % 256] ++ bytesOf t by rw [hall]; unfold txtE twoE; rw [List.append_assoc])
  clear hr hall
  go_enter Tryz.func111, Tryz.ntmps111
  go_wp2_with (go_at_call 138; refine (putText_ok l t A c _ HR.out hl ht (chk_size t ht)).mono ?_; rintro e w1 ⟨v, rfl, hR, hB⟩; rw [← HALL.out] at hR; have HO := Aside0.mk hR; have HB := Aside0.mk hB; clear hR hB)
  go_ret
  exact ⟨v, rfl, HO.out, HB.out⟩
theorem cdata_any (l d : List Int) (A D : Option Addr) (n c m cd : Nat) (w : World) (hn : n = l.length) (hm : m = d.length) (hr : (Kd.int .u8).C w A l.length l) (hl : l.length ≤ 1099511627776) (hd : (Kd.int .u8).C w D d.length d) (hdl : d.length ≤ 65535) (all : List Int) (hall : all = l ++ datE d) :
    Calls Tryz.prog 137 #[.slice A n c, .slice D m cd] w fun e w' => ∃ v, e = .returned v ∧ (Kd.int .u8).R 5 w' w.heap.size (fun _ => True) v all ∧ Below w.heap.size w w' := by
  subst hn hm
  have HR := Aside0.mk hr
  have HD := Aside0.mk hd
  have HALL := Aside0.mk (show all = l ++ [(d.length : Int) / 256 % 256, (d.length : Int) % 256] ++ d by rw [hall]; unfold datE twoE; rw [List.append_assoc])
  clear hr hall hd
  go_enter Tryz.func137, Tryz.ntmps137
  go_wp2_with (go_at_call 149; refine (putData_ok l d A D c cd _ HR.out hl HD.out hdl).mono ?_; rintro e w1 ⟨v, rfl, hR, hB⟩; rw [← HALL.out] at hR; have HO := Aside0.mk hR; have HB := Aside0.mk hB; clear hR hB)
  go_ret
  exact ⟨v, rfl, HO.out, HB.out⟩
theorem flag_or : ∀ q : Int, (q = 0 ∨ q = 1 ∨ q = 2) → ∀ du re : Bool,
    (if re then bits .or .i64 (if du then bits .or .i64 (2 * q) 8 else 2 * q) 1 else (if du then bits .or .i64 (2 * q) 8 else 2 * q)) = 2 * q + (if du then 8 else 0) + (if re then 1 else 0) := by
  intro q hq
  rcases hq with rfl | rfl | rfl <;> decide +kernel
theorem pkt_block {W : World} {B : Nat} {p : Pkt} {vw vp vm va vc vf : Value} {cs : List Value} (hB : W.heap[B]? = some (.cells cs.toArray 38 (0, 0))) (hcs : cs = pktCells p vw vp vm va vc vf) :
    ∀ j, W.cell? ⟨B, j, none⟩ = (pktCells p vw vp vm va vc vf)[j]? := fun j => by rw [blk_cell hB j, hcs, List.getElem?_toArray]
theorem pkt_szA {w : World} {p : Pkt} {cs : List Value} (h : kPkt.K w p cs) : (Tryz.prog.info? 38).map (·.size) = some cs.toArray.size := by
  rw [show cs.toArray.size = 25 from by rw [List.size_toArray, kPkt.K_len h]; rfl]; exact pktSize
set_option maxRecDepth 100000 in
set_option maxHeartbeats 2000000 in
theorem flags_any {w : World} (hg : Gl w) (p : Pkt) (cs : List Value) (h : kPkt.K w p cs) (hp : pchk p = 0) (ha : p.asks.length ≤ 1099511627776) (hfl : p.filters.length ≤ 1099511627776) (hcl : p.codes.length ≤ 1099511627776) :
    Calls Tryz.prog 76 #[.agg cs.toArray] w fun e w' => e = .returned (.int .i64 (flagsE p)) ∧ Below w.heap.size w w' := by
  have hR := pchk_right hp
  obtain ⟨Aw, nw, Ap, np, Am, nm, Aa, na, Ac, nc, Af, nf, hcs, _⟩ := pkt_K h
  obtain ⟨X, hX⟩ : ∃ X : World, X = w.alloc (.cells cs.toArray 38) := ⟨_, rfl⟩
  have hbx : Below w.heap.size w X := by rw [hX]; exact below_alloc (Below.refl w.heap.size w) _
  have HBX := Aside0.mk hbx
  have HQ := Aside0.mk (show X.heap[w.heap.size]? = some (.cells cs.toArray 38 (0, 0)) by rw [hX]; exact heap_alloc_new w _)
  have HG := Aside0.mk (hg.below hbx hg.sz hbx.size)
  have HK := Aside0.mk (kPkt.K_below hbx h)
  have HSZ := Aside0.mk (pkt_szA h)
  have HX := Aside0.mk hX
  have HP := Aside0.mk hp
  have HR := Aside0.mk hR
  have HCS := Aside0.mk hcs
  clear hR hX hbx hg h hp hcs
  go_enter Tryz.func76, Tryz.ntmps76
  go_upto_region 1 with fail
  refine wp_wld (w2 := X) (by rw [HX.out]) ?_
  go_upto_region 3 with (first
    | (refine wpList_load_row rfl 38 _ rfl w.heap.size rfl 38 _ (0, 0) _ HQ.out Tryz.underlying38 rfl HSZ.out ?_)
    | (go_at_call 28; (with_reducible refine (pcheck_any HG.out p cs HK.out ha hfl hcl).mono ?_); rintro e w1 ⟨rfl, hB⟩; rw [HP.out]; have HB1 := Aside0.mk hB; clear hB))
  have hq1 : w1.heap[w.heap.size]? = some (.cells cs.toArray 38 (0, 0)) := (HB1.out.block _ (blk_lt HQ.out)).trans HQ.out
  have hc := pkt_block hq1 HCS.out
  have x0 : w1.cell? ⟨w.heap.size, 0, none⟩ = some (.int .i64 p.kind) := hc 0
  have x16 : w1.cell? ⟨w.heap.size, 16, none⟩ = some (.bool p.dup) := hc 16
  have x19 : w1.cell? ⟨w.heap.size, 19, none⟩ = some (.int .i64 p.msg.qos) := hc 19
  have x20 : w1.cell? ⟨w.heap.size, 20, none⟩ = some (.bool p.msg.retain) := hc 20
  have HBE := Aside0.mk (HBX.out.trans (HB1.out.mono HBX.out.size))
  clear hq1 hc HX HP HSZ
  by_cases k3 : p.kind = 3
  · have tk : (p.kind != 3) = false := by rw [k3]; rfl
    have hf : flagsE p = 2 * p.msg.qos + (if p.dup then 8 else 0) + (if p.msg.retain then 1 else 0) := by unfold flagsE; rw [if_pos k3]
    rw [← flag_or p.msg.qos (q_cases HR.out.mqos)] at hf
    have HF := Aside0.mk hf
    have hqq := HR.out.mqos
    have eq2 : wrap64 (2 * p.msg.qos) = 2 * p.msg.qos := by unfold wrap64; omega
    clear hf k3 hqq
    cases hdu : p.dup <;> cases hre : p.msg.retain
    all_goals
      rw [hdu] at x16
      rw [hre] at x20
      have hf := HF.out
      rw [hdu, hre] at hf
      simp only [Bool.false_eq_true, if_false, if_true] at hf
      have HF2 := Aside0.mk hf
      clear HF hf
      go_wp2
      go_ret
      exact ⟨by rw [HF2.out]; first | rfl | (simp only [eq2]; rfl), HBE.out⟩
  · have tk : (p.kind != 3) = true := by simpa using k3
    have hf : flagsE p = flagL.getD p.kind.toNat 0 := by unfold flagsE; rw [if_neg k3]
    have HF := Aside0.mk hf
    have hg1 := HG.out.below HB1.out HG.out.sz HB1.out.size
    have p0 : (0 : Int) ≤ p.kind := by have := HR.out.k1; omega
    have p1 : p.kind < 15 := by have := HR.out.k14; omega
    have x := hg1.flags p.kind.toNat (by omega)
    clear hg1 hf k3
    rw [← HF.out] at x
    go_wp2
    go_ret
    exact ⟨rfl, HBE.out⟩
end Go.Proofs.YthlbcgaegaoanaaGreatDoor.Cr

namespace Go.Proofs.YthlbcgaegaoanaaGreatDoor.Cr
open Go Go.RowKit Go.Proofs.YthlbcgaegaoanaaGreatDoorW.PrintWords Go.Proofs.YthlbcgaegaoanaaGreatDoorW.PrintLast Go.Proofs.YthlbcgaegaoanaaGreatDoorW.PrintMore Go.Proofs.YthlbcgaegaoanaaGreatDoor.Kinds Go.Proofs.YthlbcgaegaoanaaGreatDoor.Utf Go.Proofs.YthlbcgaegaoanaaGreatDoor.Chk Go.Proofs.YthlbcgaegaoanaaGreatDoor.Rdr
set_option linter.unusedVariables false
set_option linter.unusedSimpArgs false
def mkL (p : Pkt) : List (Bool × Int) := [(p.clean, 2), (p.hasWill, 4), (p.will.retain, 32), (p.hasPass, 64), (p.hasUser, 128)]
def mkG (b : Int) (l : List (Bool × Int)) : Int := l.foldl (fun m x => orIf x.1 m x.2) b
theorem mkG_all (p : Pkt) : mkG (p.will.qos * 8 % 256) (mkL p) = marksE p := rfl
theorem mkG_next (b : Int) (l : List (Bool × Int)) (k : Nat) (hk : k < l.length) : mkG b (l.take (k + 1)) = orIf (l[k].1) (mkG b (l.take k)) (l[k].2) := by
  unfold mkG
  rw [← List.take_append_getElem hk, List.foldl_append]
  rfl
theorem mk_cells {W : World} {G T : Nat} {p : Pkt} (hB : W.heap[G]? = some (.cells #[.bool p.clean, .int .u8 2, .bool p.hasWill, .int .u8 4, .bool p.will.retain, .int .u8 32, .bool p.hasPass, .int .u8 64, .bool p.hasUser, .int .u8 128] T (0, 0))) :
    ∀ k (hk : k < (mkL p).length), W.cell? ⟨G, k * 2, none⟩ = some (.bool ((mkL p)[k]).1) ∧ W.cell? ⟨G, k * 2 + 1, none⟩ = some (.int .u8 ((mkL p)[k]).2) := by
  intro k hk
  have hk5 : k < 5 := hk
  rcases k with _ | _ | _ | _ | _ | k
  · exact ⟨blk_cell hB 0, blk_cell hB 1⟩
  · exact ⟨blk_cell hB 2, blk_cell hB 3⟩
  · exact ⟨blk_cell hB 4, blk_cell hB 5⟩
  · exact ⟨blk_cell hB 6, blk_cell hB 7⟩
  · exact ⟨blk_cell hB 8, blk_cell hB 9⟩
  · omega
set_option maxRecDepth 100000 in
set_option maxHeartbeats 2000000 in
theorem marks_any (p : Pkt) (cs : List Value) (w : World) (h : kPkt.K w p cs) (hq : 0 ≤ p.will.qos ∧ p.will.qos ≤ 2) :
    Calls Tryz.prog 136 #[.agg cs.toArray] w fun e w' => e = .returned (.int .u8 (marksE p)) ∧ Below w.heap.size w w' := by
  obtain ⟨Aw, nw, Ap, np, Am, nm, Aa, na, Ac, nc, Af, nf, hcs, hrr⟩ := pkt_K h
  clear hrr
  obtain ⟨X, hX⟩ : ∃ X : World, X = w.alloc (.cells cs.toArray 38) := ⟨_, rfl⟩
  have hbx : Below w.heap.size w X := by rw [hX]; exact below_alloc (Below.refl w.heap.size w) _
  have HBX := Aside0.mk hbx
  have hq1 : X.heap[w.heap.size]? = some (.cells cs.toArray 38 (0, 0)) := by rw [hX]; exact heap_alloc_new w _
  have HX := Aside0.mk hX
  have hc := pkt_block hq1 hcs
  have x2 : X.cell? ⟨w.heap.size, 2, none⟩ = some (.bool p.clean) := hc 2
  have x5 : X.cell? ⟨w.heap.size, 5, none⟩ = some (.bool p.hasWill) := hc 5
  have x8 : X.cell? ⟨w.heap.size, 8, none⟩ = some (.int .i64 p.will.qos) := hc 8
  have x9 : X.cell? ⟨w.heap.size, 9, none⟩ = some (.bool p.will.retain) := hc 9
  have x10 : X.cell? ⟨w.heap.size, 10, none⟩ = some (.bool p.hasUser) := hc 10
  have x12 : X.cell? ⟨w.heap.size, 12, none⟩ = some (.bool p.hasPass) := hc 12
  have ew : wrap64 (p.will.qos * 8) = p.will.qos * 8 := by unfold wrap64; omega
  clear hc hq1 hX hbx h hcs
  go_enter Tryz.func136, Tryz.ntmps136
  go_upto_region 1 with fail
  refine wp_wld (w2 := X) (by rw [HX.out]) ?_
  clear HX
  go_wp2_with fail
  obtain ⟨Y, hY⟩ : ∃ Y : World, Y = X.alloc (.cells #[.bool p.clean, .int .u8 2, .bool p.hasWill, .int .u8 4, .bool p.will.retain, .int .u8 32, .bool p.hasPass, .int .u8 64, .bool p.hasUser, .int .u8 128] 216) := ⟨_, rfl⟩
  obtain ⟨G, hG⟩ : ∃ G, G = X.heap.size := ⟨_, rfl⟩
  have HY := Aside0.mk (show Below w.heap.size w Y by rw [hY]; exact HBX.out.alloc HBX.out.size _)
  have HYG := Aside0.mk (show Y.heap[G]? = some (.cells #[.bool p.clean, .int .u8 2, .bool p.hasWill, .int .u8 4, .bool p.will.retain, .int .u8 32, .bool p.hasPass, .int .u8 64, .bool p.hasUser, .int .u8 128] 216 (0, 0)) by rw [hY, hG]; exact heap_alloc_new X _)
  refine wp_wld (w2 := Y) (by rw [hY]) ?_
  rw [← hG]
  have HE := Aside0.mk (show mkG (p.will.qos * 8) (mkL p) = marksE p by rw [← mkG_all, show p.will.qos * 8 % 256 = p.will.qos * 8 by omega])
  clear hY hG x2 x5 x8 x9 x10 x12 ew hq
  generalize p.will.qos * 8 = b at *
  go_loopg [3, 29] 5 (fun q m i wr => ∃ k : Nat, k + q = 5 ∧ i = .int .i64 (k : Int) ∧ m = .int .u8 (mkG b ((mkL p).take k)) ∧ Aside0 (Below Y.heap.size Y wr))
  case atStart => exact ⟨0, rfl, rfl, rfl, Aside0.mk (Below.refl _ _)⟩
  case round =>
    obtain ⟨k, hkq, rfl, rfl, HB⟩ := hrel
    rcases Nat.lt_or_ge k 5 with hk | hk
    · have t0 : decide ((k : Int) < 5) = true := decide_eq_true (by omega)
      have ek : wrap64 ((k : Int) + 1) = (k : Int) + 1 := by unfold wrap64; omega
      obtain ⟨q1, rfl⟩ : ∃ q1, gk = q1 + 1 := ⟨gk - 1, by omega⟩
      have hmk := mk_cells ((HB.out.block G (blk_lt HYG.out)).trans HYG.out) k hk
      have HN := Aside0.mk (mkG_next b (mkL p) k hk)
      obtain ⟨c0, c1⟩ := hmk
      have h0 : (0 : Int) ≤ (k : Int) := by omega
      have h5 : (k : Int) < 5 := by omega
      have HKQ := Aside0.mk hkq
      have HWS := Aside0.mk HB.out.size
      obtain ⟨m, hm⟩ : ∃ m, m = mkG b ((mkL p).take k) := ⟨_, rfl⟩
      obtain ⟨v, hv⟩ : ∃ v, v = (mkL p)[k] := ⟨_, rfl⟩
      obtain ⟨m2, hm2⟩ : ∃ m2, m2 = mkG b ((mkL p).take (k + 1)) := ⟨_, rfl⟩
      rw [← hv] at c0 c1
      rw [← hm]
      have HN2 := Aside0.mk (show m2 = orIf v.1 m v.2 by rw [hm2, hm, hv]; exact HN.out)
      have HM2 := Aside0.mk hm2
      clear hm2 hm hv HN hkq hk
      obtain ⟨bt, v⟩ := v
      dsimp only at c0 c1
      cases bt
      all_goals
        go_wp2_with fail
        go_roundg q1
        case measure => exact Nat.lt_succ_self _
        case rel => exact ⟨k + 1, by have := HKQ.out; omega, by rw [show (((k + 1 : Nat) : Int)) = (k : Int) + 1 by omega]; try rw [ek], by rw [← HM2.out, HN2.out]; rfl, ⟨HB.out.alloc HB.out.size _⟩⟩
    · have t0 : decide ((k : Int) < 5) = false := decide_eq_false (by omega)
      have t0n : decide (k < 5) = false := decide_eq_false (by omega)
      obtain rfl : k = 5 := by omega
      have HE2 := Aside0.mk (show mkG b ((mkL p).take 5) = marksE p from HE.out)
      clear hkq hk
      go_wp2
      go_ret
      exact ⟨by rw [← HE2.out]; rfl, HY.out.trans (HB.out.mono HY.out.size)⟩
end Go.Proofs.YthlbcgaegaoanaaGreatDoor.Cr

namespace Go.Proofs.YthlbcgaegaoanaaGreatDoor.Cr
open Go Go.RowKit Go.Proofs.YthlbcgaegaoanaaGreatDoorW.PrintWords Go.Proofs.YthlbcgaegaoanaaGreatDoorW.PrintLast Go.Proofs.YthlbcgaegaoanaaGreatDoorW.PrintMore Go.Proofs.YthlbcgaegaoanaaGreatDoor.Kinds Go.Proofs.YthlbcgaegaoanaaGreatDoor.Utf Go.Proofs.YthlbcgaegaoanaaGreatDoor.Chk Go.Proofs.YthlbcgaegaoanaaGreatDoor.Rdr
set_option linter.unusedVariables false
set_option linter.unusedSimpArgs false
theorem cell_keep2 {w w' : World} (hb : Below w.heap.size w w') (p : Addr) (v : Value) (h : w.cell? p = some v) : w'.cell? p = some v := by
  have hlt : p.block < w.heap.size := by
    refine Classical.byContradiction (fun hn => ?_)
    unfold World.cell? at h
    rw [Array.getElem?_eq_none (by omega)] at h
    cases h
  exact (hb.cell (p := p) hlt).trans h
theorem drew_trans {X w3 : World} (h : Below X.drew.heap.size X.drew w3) : Below X.heap.size X w3 := (below_drew (Below.refl _ _)).trans (h.mono (show X.heap.size ≤ X.drew.heap.size from Nat.le_refl _))
structure EncAt (w X wx : World) (v : Value) (l : List Int) : Prop where
  row : (Kd.int .u8).R 5 wx w.heap.size (fun _ => True) v l
  bel : Below X.heap.size X wx
theorem EncAt.step {w X wx w1 : World} {v v1 : Value} {l l1 : List Int} {b : Nat} (h : EncAt w X wx v l) (hwx : w.heap.size ≤ X.heap.size) (hr : (Kd.int .u8).R 5 w1 b (fun _ => True) v1 l1) (hb : wx.heap.size ≤ b) (hB : Below wx.heap.size wx w1) : EncAt w X w1 v1 l1 :=
  ⟨Kd.R_lower hr (Nat.le_trans (Nat.le_trans hwx h.bel.size) hb), h.bel.trans (hB.mono h.bel.size)⟩
structure PkAt (P0 : Nat) (p : Pkt) (cs : List Value) (Aw Ap Am : Option Addr) (nw np nm : Nat) (W : World) : Prop where
  blk : W.heap[P0]? = some (.cells cs.toArray 38 (0, 0))
  ex : ∃ va vc vf, cs = pktCells p (.slice Aw p.will.payload.length nw) (.slice Ap p.pass.length np) (.slice Am p.msg.payload.length nm) va vc vf
  wp : (Kd.int .u8).C W Aw p.will.payload.length p.will.payload
  pp : (Kd.int .u8).C W Ap p.pass.length p.pass
  mp : (Kd.int .u8).C W Am p.msg.payload.length p.msg.payload
theorem PkAt.below {P0 : Nat} {p : Pkt} {cs : List Value} {Aw Ap Am : Option Addr} {nw np nm : Nat} {W W' : World} (h : PkAt P0 p cs Aw Ap Am nw np nm W) (hb : Below W.heap.size W W') : PkAt P0 p cs Aw Ap Am nw np nm W' :=
  ⟨(hb.block _ (blk_lt h.blk)).trans h.blk, h.ex, Kd.C_below h.wp hb, Kd.C_below h.pp hb, Kd.C_below h.mp hb⟩
theorem PkAt.cells {P0 : Nat} {p : Pkt} {cs : List Value} {Aw Ap Am : Option Addr} {nw np nm : Nat} {W : World} (h : PkAt P0 p cs Aw Ap Am nw np nm W) :
    W.cell? ⟨P0, 0, none⟩ = some (.int .i64 p.kind) ∧ W.cell? ⟨P0, 1, none⟩ = some (.int .i64 p.level) ∧ W.cell? ⟨P0, 3, none⟩ = some (.int .i64 p.keep) ∧ W.cell? ⟨P0, 4, none⟩ = some (.string p.client) ∧ W.cell? ⟨P0, 5, none⟩ = some (.bool p.hasWill) ∧ W.cell? ⟨P0, 6, none⟩ = some (.string p.will.topic) ∧ W.cell? ⟨P0, 7, none⟩ = some (.slice Aw p.will.payload.length nw) ∧
    W.cell? ⟨P0, 10, none⟩ = some (.bool p.hasUser) ∧ W.cell? ⟨P0, 11, none⟩ = some (.string p.user) ∧ W.cell? ⟨P0, 12, none⟩ = some (.bool p.hasPass) ∧ W.cell? ⟨P0, 13, none⟩ = some (.slice Ap p.pass.length np) := by
  obtain ⟨va, vc, vf, hcs⟩ := h.ex
  have hc := pkt_block h.blk hcs
  exact ⟨hc 0, hc 1, hc 3, hc 4, hc 5, hc 6, hc 7, hc 10, hc 11, hc 12, hc 13⟩
theorem pkt_range {W : World} {B : Nat} {cs : List Value} (hB : W.heap[B]? = some (.cells cs.toArray 38 (0, 0))) : W.rangeAt B 0 cs := fun j v hv => by
  rw [Nat.zero_add, blk_cell hB j, List.getElem?_toArray]; exact hv
theorem pkt_szL {w : World} {p : Pkt} {cs : List Value} (h : kPkt.K w p cs) : (Tryz.prog.info? 38).map (·.size) = some cs.length := by
  rw [kPkt.K_len h]; exact pktSize
theorem txt_len {t : ByteArray} (h : (chk t).2 = 0) : (txtE t).length ≤ 65537 := by
  have := chk_size t h
  have h2 : (twoE t.size).length = 2 := rfl
  unfold txtE; rw [List.length_append, h2, bytesOf_len]; omega
theorem dat_len {d : List Int} (h : d.length ≤ 65535) : (datE d).length ≤ 65537 := by
  have h2 : (twoE d.length).length = 2 := rfl
  unfold datE; rw [List.length_append, h2]; omega
set_option maxRecDepth 100000 in
set_option maxHeartbeats 4000000 in
theorem encConnect_any (p : Pkt) (cs : List Value) (w : World) (h : kPkt.K w p cs) (hR : Right p) :
    Calls Tryz.prog 110 #[.agg cs.toArray] w fun e w' => ∃ v, e = .returned v ∧ (Kd.int .u8).R 5 w' w.heap.size (fun _ => True) v (connE p) ∧ Below w.heap.size w w' := by
  obtain ⟨Aw, nw, Ap, np, Am, nm, Aa, na, Ac, nc, Af, nf, hcs, hww, hpp, hmm, hrr⟩ := pkt_K h
  obtain ⟨X, hX⟩ : ∃ X : World, X = w.alloc (.cells cs.toArray 38) := ⟨_, rfl⟩
  have hbx : Below w.heap.size w X := by rw [hX]; exact below_alloc (Below.refl w.heap.size w) _
  have HBX := Aside0.mk hbx
  have hq1 : X.heap[w.heap.size]? = some (.cells cs.toArray 38 (0, 0)) := by rw [hX]; exact heap_alloc_new w _
  have HPK := Aside0.mk (show PkAt w.heap.size p cs Aw Ap Am nw np nm X from ⟨hq1, ⟨_, _, _, hcs⟩, Kd.C_below hww.2 hbx, Kd.C_below hpp.2 hbx, Kd.C_below hmm.2 hbx⟩)
  have HK := Aside0.mk (kPkt.K_below hbx h)
  have HSZ := Aside0.mk (pkt_szL h)
  have HX := Aside0.mk hX
  have HRG := Aside0.mk (pkt_range hq1)
  have HRT := Aside0.mk hR
  have x1 : X.cell? ⟨w.heap.size, 1, none⟩ = some (.int .i64 p.level) := HPK.out.cells.2.1
  clear hq1 hX hbx h hcs hww hpp hmm hrr hR
  go_enter Tryz.func110, Tryz.ntmps110
  go_upto_region 1 with fail
  refine wp_wld (w2 := X) (by rw [HX.out]) ?_
  clear HX
  refine start_ (n := 9) (S := fun w' => w'.rangeAt w.heap.size 0 cs ∧ w'.cell? ⟨w.heap.size, 1, none⟩ = some (.int .i64 p.level)) (ds := [6, 7]) #[false, false, false, false, false, false, false, false, false] (by kernel_rfl) rfl rfl ⟨HRG.out, x1⟩ (fun hHeld => ?_)
  refine pure_ (i := 1) (N := some 5) (v := ?_) (a' := ?_) #[false, true, false, false, false, false, false, false, false] rfl rfl (by kernel_rfl) (fun _ _ _ h => h) (Or.inl ⟨by rfl, ?_⟩) ?_ ?_
  rotate_left
  · intro w'
    go_simp
    with_reducible rfl
  rotate_left
  · simp only [Act.put, List.setIfInBounds_toArray, List.set_cons_zero, List.set_cons_succ, i64_w, i32_w]
    rfl
  refine take_ (i := 2) (N := some 6) (v := ?_) (a' := ?_) #[false, true, true, false, false, false, false, false, false] rfl rfl (by kernel_rfl) (fun _ _ _ h => h) (Or.inl ⟨by rfl, ?_⟩) hHeld ?_ ?_
  rotate_left
  · rintro w' ⟨s0, s1⟩
    go_simp
    with_reducible rfl
  rotate_left
  · simp only [Act.put, List.setIfInBounds_toArray, List.set_cons_zero, List.set_cons_succ, i64_w, i32_w]
    rfl
  refine pure_ (i := 3) (N := some 7) (v := ?_) (a' := ?_) #[false, true, true, true, false, false, false, false, false] rfl rfl (by kernel_rfl) (fun _ _ _ h => h) (Or.inl ⟨by rfl, ?_⟩) ?_ ?_
  rotate_left
  · intro w'
    go_simp
    with_reducible rfl
  rotate_left
  · simp only [Act.put, List.setIfInBounds_toArray, List.set_cons_zero, List.set_cons_succ, i64_w, i32_w]
    rfl
  refine take_ (i := 4) (N := some 8) (v := .agg cs.toArray) (a' := ?_) #[false, true, true, true, true, false, false, false, false] rfl rfl (by kernel_rfl) (fun _ _ _ h => h) (yieldsIf_load_mid (by rfl) 38 (.tmp 1) rfl w.heap.size 0 (by rfl) cs _ (fun w' h' => h'.1) Tryz.underlying38 rfl HSZ.out) hHeld ?_ ?_
  rotate_left
  · simp only [Act.put, List.setIfInBounds_toArray, List.set_cons_zero, List.set_cons_succ, i64_w, i32_w]
    rfl
  refine one_ (i := 0) (N := some 4) #[true, true, true, true, true, false, false, false, false] rfl rfl (by kernel_rfl) (by decide) (fun K hK => ?_)
  refine goes_ Tryz.func111 (by kernel_rfl) rfl #[.slice none 0 0, .string protoE] (by rfl) rfl rfl (by simp only [List.map_toArray, List.map_cons, List.map_nil]; rfl) ?_
  with_reducible refine (ctext_any [] protoE none 0 0 _ rfl (Kd.C_nil _ _) (by decide) proto_chk (txtE protoE) (by rw [List.nil_append])).mono ?_
  rintro e w3 ⟨v3, rfl, hR3, hB3⟩
  refine ⟨_, rfl, ?_⟩
  refine hK.out _ _ ⟨(fun i u hu => cell_keep2 hB3 _ _ (hHeld.1 i u hu)), cell_keep2 hB3 _ _ hHeld.2⟩ (fun hHeld => ?_)
  clear hK K
  refine norm_ (a' := ?_) ?_ ?_
  rotate_left
  · show Act.put _ (some 4) _ = _
    simp only [Act.put, List.setIfInBounds_toArray, List.set_cons_zero, List.set_cons_succ, i64_w, i32_w]
    rfl
  refine one_ (i := 5) (N := some 9) #[true, true, true, true, true, true, false, false, false] rfl rfl (by kernel_rfl) (by decide) (fun K hK => ?_)
  refine goes_ Tryz.func136 (by kernel_rfl) rfl #[.agg cs.toArray] (by rfl) rfl rfl (by simp only [List.map_toArray, List.map_cons, List.map_nil]; rfl) ?_
  with_reducible refine (marks_any p cs w3 (kPkt.K_below (drew_trans hB3) HK.out) HRT.out.wqos).mono ?_
  rintro e w4 ⟨rfl, hB4⟩
  refine ⟨_, rfl, ?_⟩
  refine hK.out _ _ ⟨(fun i u hu => cell_keep2 hB4 _ _ (hHeld.1 i u hu)), cell_keep2 hB4 _ _ hHeld.2⟩ (fun hHeld => ?_)
  clear hK K
  refine norm_ (a' := ?_) ?_ ?_
  rotate_left
  · show Act.put _ (some 9) _ = _
    simp only [Act.put, List.setIfInBounds_toArray, List.set_cons_zero, List.set_cons_succ, i64_w, i32_w]
    rfl
  refine last_ (i := 6) (N := some 10) #[true, true, true, true, true, true, true, false, false] rfl rfl (by kernel_rfl) (by decide) (fun K hK => ?_)
  refine value_ (w1 := ?_) (v := ?_) (by rfl) rfl ?_ ?_
  rotate_left 2
  · go_simp
    constructor
    · rfl
    · rfl
  refine hK.out _ _ ?_
  clear hK K
  refine norm_ (a' := ?_) ?_ ?_
  rotate_left
  · show Act.put _ (some 10) _ = _
    simp only [Act.put, List.setIfInBounds_toArray, List.set_cons_zero, List.set_cons_succ, i64_w, i32_w]
    rfl
  refine last_ (i := 7) (N := some 11) #[true, true, true, true, true, true, true, true, false] rfl rfl (by kernel_rfl) (by decide) (fun K hK => ?_)
  refine Kd.R_append_rows_step (Kd.int .u8) (w0 := X) X.heap.size (by rfl) (.tmp 4) (.tmp 10) 22 5 (.int .u8 0) 1 (by rfl) Tryz.underlying22 infoU8 (by rfl) (by decide) (by omega) v3 (txtE protoE) [p.level % 256, marksE p] _ _ _ (fun _ => True) (fun _ => False) (by rfl) (by rfl) ?aO ?aR (fun _ _ h => h) (fun _ h => h.elim) (fun _ _ => trivial) ?aB ?aS ?aL ?_
  case aO => exact Kd.R_alloc (Kd.R_below hR3 hB4) _
  case aR => exact C_lit8 w4 [p.level % 256, marksE p] (by simp)
  case aB => exact (drew_trans (hB3.trans (hB4.mono hB3.size))).alloc (Nat.le_trans hB3.size hB4.size) _
  case aS => have h1 := hB3.size; have h2 := hB4.size; simp; exact Nat.le_succ_of_le (Nat.le_trans h1 h2)
  case aL => decide
  intro v5 w5 hR5 hB5 _ _
  have HE5 := Aside0.mk (show EncAt w X w5 v5 (txtE protoE ++ [p.level % 256, marksE p]) from ⟨Kd.R_lower hR5 HBX.out.size, hB5⟩)
  obtain ⟨A5, c5, hv5⟩ := Kd.R_slice hR5
  subst hv5
  refine hK.out _ _ ?_
  clear hK K
  refine norm_ (a' := ?_) ?_ ?_
  rotate_left
  · show Act.put _ (some 11) _ = _
    simp only [Act.put, List.setIfInBounds_toArray, List.set_cons_zero, List.set_cons_succ, i64_w, i32_w]
    rfl
  refine pure_ (i := 8) (N := some 3) (v := ?_) (a' := ?_) #[true, true, true, true, true, true, true, true, true] rfl rfl (by kernel_rfl) (fun _ _ _ h => h) (Or.inl ⟨by rfl, ?_⟩) ?_ ?_
  rotate_left
  · intro w'
    go_simp
    with_reducible rfl
  rotate_left
  · simp only [Act.put, List.setIfInBounds_toArray, List.set_cons_zero, List.set_cons_succ, i64_w, i32_w]
    rfl
  refine done_ (by kernel_rfl) ?_
  have HC5 := Aside0.mk (Kd.R_reads' HE5.out.row).2.2
  have hc5 := (HPK.out.below HE5.out.bel).cells
  have x3 := hc5.2.2.1
  have x4 := hc5.2.2.2.1
  clear x1 hc5
  obtain ⟨l3, hl3⟩ : ∃ l3, l3 = txtE protoE ++ [p.level % 256, marksE p] ++ [p.keep / 256 % 256, p.keep % 256] ++ txtE p.client := ⟨_, rfl⟩
  have HL3 := Aside0.mk hl3
  have HLN3 := Aside0.mk (show l3.length ≤ 100000 by
    have := txt_len HRT.out.client
    have h2 : (txtE protoE).length = 6 := by simp [txtE, twoE, bytesOf, protoE]
    rw [hl3]; simp only [List.length_append, List.length_cons, List.length_nil]; omega)
  clear hl3
  go_upto_region 2 with fail
  refine start_ (n := 8) (S := fun w' => w'.cell? ⟨w.heap.size, 3, none⟩ = some (.int .i64 p.keep) ∧ w'.cell? ⟨w.heap.size, 4, none⟩ = some (.string p.client)) (ds := [6]) #[false, false, false, false, false, false, false, false] (by kernel_rfl) rfl rfl ⟨x3, x4⟩ (fun hHeld => ?_)
  refine pure_ (i := 0) (N := some 12) (v := ?_) (a' := ?_) #[true, false, false, false, false, false, false, false] rfl rfl (by kernel_rfl) (fun _ _ _ h => h) (Or.inl ⟨by rfl, ?_⟩) ?_ ?_
  rotate_left
  · intro w'
    go_simp
    with_reducible rfl
  rotate_left
  · simp only [Act.put, List.setIfInBounds_toArray, List.set_cons_zero, List.set_cons_succ, i64_w, i32_w]
    rfl
  refine pure_ (i := 1) (N := some 13) (v := ?_) (a' := ?_) #[true, true, false, false, false, false, false, false] rfl rfl (by kernel_rfl) (fun _ _ _ h => h) (Or.inl ⟨by rfl, ?_⟩) ?_ ?_
  rotate_left
  · intro w'
    go_simp
    with_reducible rfl
  rotate_left
  · simp only [Act.put, List.setIfInBounds_toArray, List.set_cons_zero, List.set_cons_succ, i64_w, i32_w]
    rfl
  refine pure_ (i := 4) (N := some 16) (v := ?_) (a' := ?_) #[true, true, false, false, true, false, false, false] rfl rfl (by kernel_rfl) (fun _ _ _ h => h) (Or.inl ⟨by rfl, ?_⟩) ?_ ?_
  rotate_left
  · intro w'
    go_simp
    with_reducible rfl
  rotate_left
  · simp only [Act.put, List.setIfInBounds_toArray, List.set_cons_zero, List.set_cons_succ, i64_w, i32_w]
    rfl
  refine take_ (i := 2) (N := some 14) (v := ?_) (a' := ?_) #[true, true, true, false, true, false, false, false] rfl rfl (by kernel_rfl) (fun _ _ _ h => h) (Or.inl ⟨by rfl, ?_⟩) hHeld ?_ ?_
  rotate_left
  · rintro w' ⟨s0, s1⟩
    go_simp
    with_reducible rfl
  rotate_left
  · simp only [Act.put, List.setIfInBounds_toArray, List.set_cons_zero, List.set_cons_succ, i64_w, i32_w]
    rfl
  refine take_ (i := 5) (N := some 17) (v := ?_) (a' := ?_) #[true, true, true, false, true, true, false, false] rfl rfl (by kernel_rfl) (fun _ _ _ h => h) (Or.inl ⟨by rfl, ?_⟩) hHeld ?_ ?_
  rotate_left
  · rintro w' ⟨s0, s1⟩
    go_simp
    with_reducible rfl
  rotate_left
  · simp only [Act.put, List.setIfInBounds_toArray, List.set_cons_zero, List.set_cons_succ, i64_w, i32_w]
    rfl
  refine one_ (i := 3) (N := some 15) #[true, true, true, true, true, true, false, false] rfl rfl (by kernel_rfl) (by decide) (fun K hK => ?_)
  refine goes_ Tryz.func112 (by kernel_rfl) rfl #[.slice A5 (txtE protoE ++ [p.level % 256, marksE p]).length c5, .int .i64 p.keep] (by rfl) rfl rfl (by simp only [List.map_toArray, List.map_cons, List.map_nil]; rfl) ?_
  with_reducible refine (putNumber_any (txtE protoE ++ [p.level % 256, marksE p]) p.keep A5 c5 w5.drew (Kd.C_drew HC5.out) (by simp [txtE, twoE, bytesOf, protoE])).mono ?_
  rintro e w6 ⟨v6, rfl, hR6, hB6⟩
  refine ⟨_, rfl, ?_⟩
  obtain ⟨A6, c6, hv6⟩ := Kd.R_slice hR6
  subst hv6
  refine hK.out _ _ ⟨cell_keep2 hB6 _ _ hHeld.1, cell_keep2 hB6 _ _ hHeld.2⟩ (fun hHeld => ?_)
  clear hK K
  refine norm_ (a' := ?_) ?_ ?_
  rotate_left
  · show Act.put _ (some 15) _ = _
    simp only [Act.put, List.setIfInBounds_toArray, List.set_cons_zero, List.set_cons_succ, i64_w, i32_w]
    rfl
  refine last_ (i := 6) (N := some 18) #[true, true, true, true, true, true, true, false] rfl rfl (by kernel_rfl) (by decide) (fun K hK => ?_)
  refine goes_ Tryz.func111 (by kernel_rfl) rfl #[.slice A6 (txtE protoE ++ [p.level % 256, marksE p] ++ [p.keep / 256 % 256, p.keep % 256]).length c6, .string p.client] (by rfl) rfl rfl (by simp only [List.map_toArray, List.map_cons, List.map_nil]; rfl) ?_
  with_reducible refine (ctext_any (txtE protoE ++ [p.level % 256, marksE p] ++ [p.keep / 256 % 256, p.keep % 256]) p.client A6 _ c6 w6 rfl (Kd.R_reads' hR6).2.2 (by simp [txtE, twoE, bytesOf, protoE]) HRT.out.client l3 HL3.out).mono ?_
  rintro e w7 ⟨v7, rfl, hR7, hB7⟩
  refine ⟨_, rfl, ?_⟩
  refine hK.out _ _ ?_
  clear hK K
  refine norm_ (a' := ?_) ?_ ?_
  rotate_left
  · show Act.put _ (some 18) _ = _
    simp only [Act.put, List.setIfInBounds_toArray, List.set_cons_zero, List.set_cons_succ, i64_w, i32_w]
    rfl
  refine pure_ (i := 7) (N := some 3) (v := ?_) (a' := ?_) #[true, true, true, true, true, true, true, true] rfl rfl (by kernel_rfl) (fun _ _ _ h => h) (Or.inl ⟨by rfl, ?_⟩) ?_ ?_
  rotate_left
  · intro w'
    go_simp
    with_reducible rfl
  rotate_left
  · simp only [Act.put, List.setIfInBounds_toArray, List.set_cons_zero, List.set_cons_succ, i64_w, i32_w]
    rfl
  refine done_ (by kernel_rfl) ?_
  have HE7 := Aside0.mk (show EncAt w X w7 v7 l3 from HE5.out.step HBX.out.size hR7 (show w5.heap.size ≤ _ from hB6.size) (drew_trans (hB6.trans (hB7.mono hB6.size))))
  clear hR6 hB6 hR7 hB7 x3 x4 HC5 hHeld
  obtain ⟨x0', x1', x3', x4', x5, x6, x7, x10, x11, x12, x13⟩ := (HPK.out.below HE7.out.bel).cells
  clear x0' x1' x3' x4' x10 x11 x12 x13
  obtain ⟨A3, c3, hv7⟩ := Kd.R_slice HE7.out.row
  subst hv7
  obtain ⟨l4, hl4⟩ : ∃ l4, l4 = l3 ++ (if p.hasWill then txtE p.will.topic ++ datE p.will.payload else []) := ⟨_, rfl⟩
  have HL4 := Aside0.mk hl4
  clear hl4
  go_upto_if 20 with fail
  go_cut [3] (fun s3 wx => Aside0 (EncAt w X wx s3 l4))
  case first =>
    rcases Bool.eq_false_or_eq_true p.hasWill with hw | hw
    · have HC3 := Aside0.mk (Kd.R_reads' HE7.out.row).2.2
      have HLN4 := Aside0.mk (show (l3 ++ txtE p.will.topic).length ≤ 1099511627776 by have := txt_len (HRT.out.wtop hw); have := HLN3.out; rw [List.length_append]; omega)
      simp only [hw]
      go_upto_region 4 with fail
      refine start_ (n := 10) (S := fun w' => w'.cell? ⟨w.heap.size, 6, none⟩ = some (.string p.will.topic) ∧ w'.cell? ⟨w.heap.size, 7, none⟩ = some (.slice Aw p.will.payload.length nw)) (ds := [8]) #[false, false, false, false, false, false, false, false, false, false] (by kernel_rfl) rfl rfl ⟨x6, x7⟩ (fun hHeld => ?_)
      refine pure_ (i := 0) (N := some 21) (v := ?_) (a' := ?_) #[true, false, false, false, false, false, false, false, false, false] rfl rfl (by kernel_rfl) (fun _ _ _ h => h) (Or.inl ⟨by rfl, ?_⟩) ?_ ?_
      rotate_left
      · intro w'
        go_simp
        with_reducible rfl
      rotate_left
      · simp only [Act.put, List.setIfInBounds_toArray, List.set_cons_zero, List.set_cons_succ, i64_w, i32_w]
        rfl
      refine pure_ (i := 1) (N := some 22) (v := ?_) (a' := ?_) #[true, true, false, false, false, false, false, false, false, false] rfl rfl (by kernel_rfl) (fun _ _ _ h => h) (Or.inl ⟨by rfl, ?_⟩) ?_ ?_
      rotate_left
      · intro w'
        go_simp
        with_reducible rfl
      rotate_left
      · simp only [Act.put, List.setIfInBounds_toArray, List.set_cons_zero, List.set_cons_succ, i64_w, i32_w]
        rfl
      refine pure_ (i := 2) (N := some 23) (v := ?_) (a' := ?_) #[true, true, true, false, false, false, false, false, false, false] rfl rfl (by kernel_rfl) (fun _ _ _ h => h) (Or.inl ⟨by rfl, ?_⟩) ?_ ?_
      rotate_left
      · intro w'
        go_simp
        with_reducible rfl
      rotate_left
      · simp only [Act.put, List.setIfInBounds_toArray, List.set_cons_zero, List.set_cons_succ, i64_w, i32_w]
        rfl
      refine pure_ (i := 5) (N := some 26) (v := ?_) (a' := ?_) #[true, true, true, false, false, true, false, false, false, false] rfl rfl (by kernel_rfl) (fun _ _ _ h => h) (Or.inl ⟨by rfl, ?_⟩) ?_ ?_
      rotate_left
      · intro w'
        go_simp
        with_reducible rfl
      rotate_left
      · simp only [Act.put, List.setIfInBounds_toArray, List.set_cons_zero, List.set_cons_succ, i64_w, i32_w]
        rfl
      refine pure_ (i := 6) (N := some 27) (v := ?_) (a' := ?_) #[true, true, true, false, false, true, true, false, false, false] rfl rfl (by kernel_rfl) (fun _ _ _ h => h) (Or.inl ⟨by rfl, ?_⟩) ?_ ?_
      rotate_left
      · intro w'
        go_simp
        with_reducible rfl
      rotate_left
      · simp only [Act.put, List.setIfInBounds_toArray, List.set_cons_zero, List.set_cons_succ, i64_w, i32_w]
        rfl
      refine take_ (i := 3) (N := some 24) (v := ?_) (a' := ?_) #[true, true, true, true, false, true, true, false, false, false] rfl rfl (by kernel_rfl) (fun _ _ _ h => h) (Or.inl ⟨by rfl, ?_⟩) hHeld ?_ ?_
      rotate_left
      · rintro w' ⟨s0, s1⟩
        go_simp
        with_reducible rfl
      rotate_left
      · simp only [Act.put, List.setIfInBounds_toArray, List.set_cons_zero, List.set_cons_succ, i64_w, i32_w]
        rfl
      refine take_ (i := 7) (N := some 28) (v := ?_) (a' := ?_) #[true, true, true, true, false, true, true, true, false, false] rfl rfl (by kernel_rfl) (fun _ _ _ h => h) (Or.inl ⟨by rfl, ?_⟩) hHeld ?_ ?_
      rotate_left
      · rintro w' ⟨s0, s1⟩
        go_simp
        with_reducible rfl
      rotate_left
      · simp only [Act.put, List.setIfInBounds_toArray, List.set_cons_zero, List.set_cons_succ, i64_w, i32_w]
        rfl
      refine one_ (i := 4) (N := some 25) #[true, true, true, true, true, true, true, true, false, false] rfl rfl (by kernel_rfl) (by decide) (fun K hK => ?_)
      refine goes_ Tryz.func111 (by kernel_rfl) rfl #[.slice A3 l3.length c3, .string p.will.topic] (by rfl) rfl rfl (by simp only [List.map_toArray, List.map_cons, List.map_nil]; rfl) ?_
      with_reducible refine (ctext_any l3 p.will.topic A3 _ c3 w7.drew rfl (Kd.C_drew HC3.out) (Nat.le_trans HLN3.out (by decide)) (HRT.out.wtop hw) _ rfl).mono ?_
      rintro e w8 ⟨v8, rfl, hR8, hB8⟩
      refine ⟨_, rfl, ?_⟩
      obtain ⟨A8, c8, hv8⟩ := Kd.R_slice hR8
      subst hv8
      refine hK.out _ _ ⟨cell_keep2 hB8 _ _ hHeld.1, cell_keep2 hB8 _ _ hHeld.2⟩ (fun hHeld => ?_)
      clear hK K
      refine norm_ (a' := ?_) ?_ ?_
      rotate_left
      · show Act.put _ (some 25) _ = _
        simp only [Act.put, List.setIfInBounds_toArray, List.set_cons_zero, List.set_cons_succ, i64_w, i32_w]
        rfl
      refine last_ (i := 8) (N := some 29) #[true, true, true, true, true, true, true, true, true, false] rfl rfl (by kernel_rfl) (by decide) (fun K hK => ?_)
      refine goes_ Tryz.func137 (by kernel_rfl) rfl #[.slice A8 (l3 ++ txtE p.will.topic).length c8, .slice Aw p.will.payload.length nw] (by rfl) rfl rfl (by simp only [List.map_toArray, List.map_cons, List.map_nil]; rfl) ?_
      with_reducible refine (cdata_any (l3 ++ txtE p.will.topic) p.will.payload A8 Aw _ c8 _ nw w8 rfl rfl (Kd.R_reads' hR8).2.2 HLN4.out (Kd.C_below (HPK.out.below HE7.out.bel).wp (drew_trans hB8)) HRT.out.wlen _ rfl).mono ?_
      rintro e w9 ⟨v9, rfl, hR9, hB9⟩
      refine ⟨_, rfl, ?_⟩
      refine hK.out _ _ ?_
      clear hK K
      refine norm_ (a' := ?_) ?_ ?_
      rotate_left
      · show Act.put _ (some 29) _ = _
        simp only [Act.put, List.setIfInBounds_toArray, List.set_cons_zero, List.set_cons_succ, i64_w, i32_w]
        rfl
      refine pure_ (i := 9) (N := some 3) (v := ?_) (a' := ?_) #[true, true, true, true, true, true, true, true, true, true] rfl rfl (by kernel_rfl) (fun _ _ _ h => h) (Or.inl ⟨by rfl, ?_⟩) ?_ ?_
      rotate_left
      · intro w'
        go_simp
        with_reducible rfl
      rotate_left
      · simp only [Act.put, List.setIfInBounds_toArray, List.set_cons_zero, List.set_cons_succ, i64_w, i32_w]
        rfl
      refine done_ (by kernel_rfl) ?_
      have HE9 := Aside0.mk (show EncAt w X w9 v9 (l3 ++ txtE p.will.topic ++ datE p.will.payload) from HE7.out.step HBX.out.size hR9 hB8.size (drew_trans (hB8.trans (hB9.mono hB8.size))))
      clear hR8 hB8 hR9 hB9 hHeld x5 x6 x7
      go_wp2_with fail
      go_meet
      case rel => exact ⟨by rw [HL4.out, if_pos hw, ← List.append_assoc]; exact HE9.out⟩
    · simp only [hw]
      go_wp2_with fail
      go_meet
      case rel => exact ⟨by rw [HL4.out, if_neg (by rw [hw]; decide), List.append_nil]; exact HE7.out⟩
  case rest =>
    have HLN4 := Aside0.mk (show l4.length ≤ 300000 by
      have := HLN3.out
      rw [HL4.out]
      cases hw : p.hasWill with
      | false => simp; omega
      | true =>
        have h1 := txt_len (HRT.out.wtop hw)
        have h2 := dat_len HRT.out.wlen
        simp only [if_true, List.length_append]; omega)
    clear HE7 x5 x6 x7
    have HE4 := hcut
    clear hcut
    obtain ⟨x0', x1', x3', x4', x5', x6', x7', x10, x11, x12', x13'⟩ := (HPK.out.below HE4.out.bel).cells
    clear x0' x1' x3' x4' x5' x6' x7' x12' x13'
    obtain ⟨A4, c4, hv4⟩ := Kd.R_slice HE4.out.row
    subst hv4
    obtain ⟨l5, hl5⟩ : ∃ l5, l5 = l4 ++ (if p.hasUser then txtE p.user else []) := ⟨_, rfl⟩
    have HL5 := Aside0.mk hl5
    clear hl5
    go_upto_if 31 with fail
    go_cut [3] (fun s3 wx => Aside0 (EncAt w X wx s3 l5))
    case first =>
      rcases Bool.eq_false_or_eq_true p.hasUser with hw | hw
      · have HC4 := Aside0.mk (Kd.R_reads' HE4.out.row).2.2
        simp only [hw]
        go_wp2_with (go_at_call 111; (with_reducible refine (ctext_any l4 p.user A4 _ c4 wc rfl HC4.out (Nat.le_trans HLN4.out (by decide)) HRT.out.user l5 (by rw [HL5.out, if_pos hw])).mono ?_); rintro e w8 ⟨v8, rfl, hR8, hB8⟩; have HE8 := Aside0.mk (HE4.out.step HBX.out.size hR8 (Nat.le_refl _) hB8); clear hR8 hB8)
        go_meet
        case rel => exact HE8
      · simp only [hw]
        go_wp2_with fail
        go_meet
        case rel => exact ⟨by rw [HL5.out, if_neg (by rw [hw]; decide), List.append_nil]; exact HE4.out⟩
    case rest =>
      have HLN5 := Aside0.mk (show l5.length ≤ 400000 by
        have := HLN4.out
        rw [HL5.out]
        cases hw : p.hasUser with
        | false => simp; omega
        | true =>
          have h1 := txt_len HRT.out.user
          simp only [if_true, List.length_append]; omega)
      clear HE4 x10 x11
      have HE5 := hcut
      clear hcut
      obtain ⟨x0', x1', x3', x4', x5', x6', x7', x10', x11', x12, x13⟩ := (HPK.out.below HE5.out.bel).cells
      have HPP := Aside0.mk (HPK.out.below HE5.out.bel).pp
      clear x0' x1' x3' x4' x5' x6' x7' x10' x11'
      obtain ⟨A5, c5, hv5⟩ := Kd.R_slice HE5.out.row
      subst hv5
      obtain ⟨l6, hl6⟩ : ∃ l6, l6 = l5 ++ (if p.hasPass then datE p.pass else []) := ⟨_, rfl⟩
      have HL6 := Aside0.mk hl6
      clear hl6
      go_upto_if 37 with fail
      go_cut [3] (fun s3 wx => Aside0 (EncAt w X wx s3 l6))
      case first =>
        rcases Bool.eq_false_or_eq_true p.hasPass with hw | hw
        · have HC5 := Aside0.mk (Kd.R_reads' HE5.out.row).2.2
          simp only [hw]
          go_wp2_with (go_at_call 137; (with_reducible refine (cdata_any l5 p.pass A5 Ap _ c5 _ np wc rfl rfl HC5.out (Nat.le_trans HLN5.out (by decide)) HPP.out HRT.out.plen l6 (by rw [HL6.out, if_pos hw])).mono ?_); rintro e w8 ⟨v8, rfl, hR8, hB8⟩; have HE8 := Aside0.mk (HE5.out.step HBX.out.size hR8 (Nat.le_refl _) hB8); clear hR8 hB8)
          go_meet
          case rel => exact HE8
        · simp only [hw]
          go_wp2_with fail
          go_meet
          case rel => exact ⟨by rw [HL6.out, if_neg (by rw [hw]; decide), List.append_nil]; exact HE5.out⟩
      case rest =>
        have HE6 := hcut
        clear hcut x12 x13
        have HEQ := Aside0.mk (show l6 = connE p by
          rw [HL6.out, HL5.out, HL4.out, HL3.out]
          rfl)
        go_wp2
        go_ret
        exact ⟨_, rfl, by rw [← HEQ.out]; exact HE6.out.row, HBX.out.trans (HE6.out.bel.mono HBX.out.size)⟩
end Go.Proofs.YthlbcgaegaoanaaGreatDoor.Cr

namespace Go.Proofs.YthlbcgaegaoanaaGreatDoor.Cr
open Go Go.RowKit Go.Proofs.YthlbcgaegaoanaaGreatDoorW.PrintWords Go.Proofs.YthlbcgaegaoanaaGreatDoorW.PrintLast Go.Proofs.YthlbcgaegaoanaaGreatDoorW.PrintMore Go.Proofs.YthlbcgaegaoanaaGreatDoor.Kinds Go.Proofs.YthlbcgaegaoanaaGreatDoor.Utf Go.Proofs.YthlbcgaegaoanaaGreatDoor.Chk Go.Proofs.YthlbcgaegaoanaaGreatDoor.Rdr
set_option linter.unusedVariables false
set_option linter.unusedSimpArgs false
structure EncB (X wx : World) (v : Value) (l : List Int) : Prop where
  row : (Kd.int .u8).R 5 wx X.heap.size (fun _ => True) v l
  bel : Below X.heap.size X wx
theorem EncB.step {X wx w1 : World} {v v1 : Value} {l l1 : List Int} {b : Nat} (h : EncB X wx v l) (hr : (Kd.int .u8).R 5 w1 b (fun _ => True) v1 l1) (hb : wx.heap.size ≤ b) (hB : Below wx.heap.size wx w1) : EncB X w1 v1 l1 :=
  ⟨Kd.R_lower hr (Nat.le_trans h.bel.size hb), h.bel.trans (hB.mono h.bel.size)⟩
theorem EncB.below {X wx w1 : World} {v : Value} {l : List Int} (h : EncB X wx v l) (hB : Below wx.heap.size wx w1) : EncB X w1 v l := ⟨Kd.R_below h.row hB, h.bel.trans (hB.mono h.bel.size)⟩
structure AskF (Z : World) (E : Nat) (a : AskV) (v : Value) (G : Nat) (w' : World) : Prop where
  row : (Kd.int .u8).R 5 w' Z.heap.size (fun _ => True) v (txtE a.filter)
  lit : (Kd.int .u8).C w' (some ⟨G, 0, none⟩) 1 [a.qos % 256]
  bel : Below Z.heap.size Z w'
theorem AskF.callFirst {Z w4 : World} {E : Nat} {a : AskV} {v : Value} (hR : (Kd.int .u8).R 5 w4 Z.drew.heap.size (fun _ => True) v (txtE a.filter)) (hB : Below Z.drew.heap.size Z.drew w4) : AskF Z E a v w4.heap.size (w4.alloc (.cells #[.int .u8 (a.qos % 256)] 5)) :=
  ⟨Kd.R_alloc hR _, C_lit8 w4 [a.qos % 256] (by simp), (drew_trans hB).alloc hB.size _⟩
theorem AskF.allocFirst {Z w4 : World} {E : Nat} {a : AskV} {v : Value} (hR : (Kd.int .u8).R 5 w4 (Z.drew.alloc (.cells #[.int .u8 (a.qos % 256)] 5)).heap.size (fun _ => True) v (txtE a.filter)) (hB : Below (Z.drew.alloc (.cells #[.int .u8 (a.qos % 256)] 5)).heap.size (Z.drew.alloc (.cells #[.int .u8 (a.qos % 256)] 5)) w4) : AskF Z E a v Z.heap.size w4 := by
  have hb0 : Below Z.heap.size Z (Z.drew.alloc (.cells #[.int .u8 (a.qos % 256)] 5)) := (below_drew (Below.refl _ _)).alloc (Nat.le_refl _) _
  exact ⟨Kd.R_lower hR hb0.size, Kd.C_below (C_lit8 Z.drew [a.qos % 256] (by simp)) hB, hb0.trans (hB.mono hb0.size)⟩
theorem asksE_take (l : List AskV) (k : Nat) (hk : k < l.length) : asksE (l.take (k + 1)) = asksE (l.take k) ++ (txtE l[k].filter ++ [l[k].qos % 256]) := by
  rw [← List.take_append_getElem hk]
  have : ∀ (x : List AskV) (a : AskV), asksE (x ++ [a]) = asksE x ++ (txtE a.filter ++ [a.qos % 256]) := by
    intro x a
    induction x with
    | nil => simp [asksE]
    | cons b t ih => simp [asksE, ih]
  exact this _ _
theorem codesE_take (l : List Int) (k : Nat) (hk : k < l.length) : codesE (l.take (k + 1)) = codesE (l.take k) ++ [l[k] % 256] := by
  rw [← List.take_append_getElem hk]
  have : ∀ (x : List Int) (a : Int), codesE (x ++ [a]) = codesE x ++ [a % 256] := by
    intro x a
    induction x with
    | nil => simp [codesE]
    | cons b t ih => simp [codesE, ih]
  exact this _ _
theorem filtE_take (l : List ByteArray) (k : Nat) (hk : k < l.length) : filtE' (l.take (k + 1)) = filtE' (l.take k) ++ txtE l[k] := by
  rw [← List.take_append_getElem hk]
  have : ∀ (x : List ByteArray) (a : ByteArray), filtE' (x ++ [a]) = filtE' x ++ txtE a := by
    intro x a
    induction x with
    | nil => simp [filtE']
    | cons b t ih => simp [filtE', ih]
  exact this _ _
theorem asksE_le (l : List AskV) (k : Nat) : (asksE (l.take k)).length ≤ (asksE l).length := by
  have : ∀ x y : List AskV, asksE (x ++ y) = asksE x ++ asksE y := by
    intro x y
    induction x with
    | nil => rfl
    | cons b t ih => simp [asksE, ih]
  have h := congrArg (fun q => (asksE q).length) (List.take_append_drop k l)
  simp only [this, List.length_append] at h
  omega
theorem codesE_le (l : List Int) (k : Nat) : (codesE (l.take k)).length ≤ (codesE l).length := by
  rw [codesE_len, codesE_len, List.length_take]; omega
theorem filtE_le (l : List ByteArray) (k : Nat) : (filtE' (l.take k)).length ≤ (filtE' l).length := by
  have : ∀ x y : List ByteArray, filtE' (x ++ y) = filtE' x ++ filtE' y := by
    intro x y
    induction x with
    | nil => rfl
    | cons b t ih => simp [filtE', ih]
  have h := congrArg (fun q => (filtE' q).length) (List.take_append_drop k l)
  simp only [this, List.length_append] at h
  omega
theorem putNumber_len (l : List Int) (n : Int) (A : Option Addr) (k c : Nat) (w : World) (hk : k = l.length) (hr : (Kd.int .u8).C w A l.length l) (hl : l.length ≤ 1099511627776) :
    Calls Tryz.prog 112 #[.slice A k c, .int .i64 n] w fun e w' => ∃ v, e = .returned v ∧ (Kd.int .u8).R 5 w' w.heap.size (fun _ => True) v (l ++ [n / 256 % 256, n % 256]) ∧ Below w.heap.size w w' := by
  subst hk
  exact putNumber_any l n A c w hr hl
set_option maxRecDepth 100000 in
set_option maxHeartbeats 4000000 in
theorem encFields_any (p : Pkt) (cs : List Value) (w : World) (h : kPkt.K w p cs) (hR : Right p) (ha : p.asks.length ≤ 1099511627776) (hf : p.filters.length ≤ 1099511627776) (hc : p.codes.length ≤ 1099511627776) (hm : p.msg.payload.length ≤ 1099511627776) :
    Calls Tryz.prog 74 #[.agg cs.toArray] w fun e w' => ∃ v, e = .returned v ∧ (Kd.int .u8).R 5 w' w.heap.size (fun _ => True) v (fldE p) ∧ Below w.heap.size w w' := by
  obtain ⟨Aw, nw, Ap, np, Am, nm, Aa, na, Ac, nc, Af, nf, hcs, hww, hpp, hmm, has, hco, hfi⟩ := pkt_K h
  obtain ⟨X, hX⟩ : ∃ X : World, X = w.alloc (.cells cs.toArray 38) := ⟨_, rfl⟩
  have hbx : Below w.heap.size w X := by rw [hX]; exact below_alloc (Below.refl w.heap.size w) _
  have HBX := Aside0.mk hbx
  have hq1 : X.heap[w.heap.size]? = some (.cells cs.toArray 38 (0, 0)) := by rw [hX]; exact heap_alloc_new w _
  have HQ := Aside0.mk hq1
  have HCL := Aside0.mk (show ∀ W : World, Below X.heap.size X W → ∀ j, W.cell? ⟨w.heap.size, j, none⟩ = (pktCells p (.slice Aw p.will.payload.length nw) (.slice Ap p.pass.length np) (.slice Am p.msg.payload.length nm) (.slice Aa p.asks.length na) (.slice Ac p.codes.length nc) (.slice Af p.filters.length nf))[j]? from fun W hb => pkt_block ((hb.block _ (blk_lt hq1)).trans hq1) hcs)
  have HK := Aside0.mk (kPkt.K_below hbx h)
  have HSZ := Aside0.mk (pkt_szA h)
  have HMP := Aside0.mk (Kd.C_below hmm.2 hbx)
  have HAS := Aside0.mk (Kd.C_below has.2 hbx)
  have HCO := Aside0.mk (Kd.C_below hco.2 hbx)
  have HFI := Aside0.mk (Kd.C_below hfi.2 hbx)
  have HX := Aside0.mk hX
  have HRT := Aside0.mk hR
  have HLN := Aside0.mk (show (fldE p).length ≤ 268435455 by have := len_fld hR ha hf hc hm; have := hR.len; omega)
  have x0 : X.cell? ⟨w.heap.size, 0, none⟩ = some (.int .i64 p.kind) := HCL.out X (Below.refl _ _) 0
  clear hq1 hX hbx h hcs hww hpp hmm has hco hfi hR ha hf hc hm
  go_enter Tryz.func74, Tryz.ntmps74
  go_upto_region 1 with fail
  refine wp_wld (w2 := X) (by rw [HX.out]) ?_
  clear HX
  by_cases k1 : p.kind = 1
  · have t1 : (p.kind == 1) = true := by simp [k1]
    have HE := Aside0.mk (show fldE p = connE p by unfold fldE; rw [if_pos k1])
    clear k1
    go_wp2_with (first
      | (refine wpList_load_row rfl 38 _ rfl w.heap.size rfl 38 _ (0, 0) _ HQ.out Tryz.underlying38 rfl HSZ.out ?_)
      | (go_at_call 110; (with_reducible refine (encConnect_any p cs X HK.out HRT.out).mono ?_); rintro e w1 ⟨v, rfl, hR1, hB1⟩; have HR1 := Aside0.mk hR1; have HB1 := Aside0.mk hB1; clear hR1 hB1))
    go_ret
    exact ⟨v, rfl, by rw [HE.out]; exact Kd.R_lower HR1.out HBX.out.size, HBX.out.trans (HB1.out.mono HBX.out.size)⟩
  · have t1 : (p.kind == 1) = false := by simp [k1]
    by_cases k2 : p.kind = 2
    · have t2 : (p.kind == 2) = true := by simp [k2]
      have HE := Aside0.mk (show fldE p = [if p.present then 1 else 0, p.code % 256] by unfold fldE; rw [if_neg k1, if_pos k2])
      have x15 : X.cell? ⟨w.heap.size, 15, none⟩ = some (.int .i64 p.code) := HCL.out X (Below.refl _ _) 15
      have x14 : ∀ o, (X.alloc o).cell? ⟨w.heap.size, 14, none⟩ = some (.bool p.present) := fun o => HCL.out _ (below_alloc (Below.refl _ _) o) 14
      clear k1 k2
      cases hp : p.present
      all_goals
        rw [hp] at x14
        have he := HE.out
        rw [hp] at he
        have HE2 := Aside0.mk he
        clear HE he
        go_wp2_with fail
        go_ret
        refine ⟨_, rfl, ?_, HBX.out.alloc HBX.out.size _⟩
        rw [HE2.out]
        exact Kd.R_of_own (own_lit X w.heap.size 5 .u8 [_, p.code % 256] HBX.out.size (by simp)) (fun _ _ => trivial)
    · have t2 : (p.kind == 2) = false := by simp [k2]
      by_cases k3 : p.kind = 3
      · have t3 : (p.kind == 3) = true := by simp [k3]
        have HE := Aside0.mk (show fldE p = txtE p.msg.topic ++ (if p.msg.qos > 0 then twoE p.id else []) ++ p.msg.payload by unfold fldE; rw [if_neg k1, if_neg k2, if_pos k3])
        have HTT := Aside0.mk (HRT.out.mtop k3)
        have x17 : X.cell? ⟨w.heap.size, 17, none⟩ = some (.string p.msg.topic) := HCL.out X (Below.refl _ _) 17
        clear k1 k2 k3
        go_upto_if 81 with (go_at_call 111; (with_reducible refine (ctext_any [] p.msg.topic none 0 0 X rfl (Kd.C_nil _ _) (by decide) HTT.out (txtE p.msg.topic) (by rw [List.nil_append])).mono ?_); rintro e w3 ⟨v3, rfl, hR3, hB3⟩; have HE3 := Aside0.mk (show EncB X w3 v3 (txtE p.msg.topic) from ⟨hR3, hB3⟩); have x19 : w3.cell? ⟨w.heap.size, 19, none⟩ = some (.int .i64 p.msg.qos) := HCL.out w3 hB3 19; have x21 : w3.cell? ⟨w.heap.size, 21, none⟩ = some (.int .i64 p.id) := HCL.out w3 hB3 21; clear hR3 hB3)
        obtain ⟨A3, c3, hv3⟩ := Kd.R_slice HE3.out.row
        subst hv3
        obtain ⟨l4, hl4⟩ : ∃ l4, l4 = txtE p.msg.topic ++ (if p.msg.qos > 0 then twoE p.id else []) := ⟨_, rfl⟩
        rw [← hl4] at HE
        have HL4 := Aside0.mk hl4
        clear hl4 x17
        go_cut [3] (fun s3 wx => Aside0 (EncB X wx s3 l4))
        case first =>
          by_cases q0 : p.msg.qos > 0
          · have tq : decide (p.msg.qos > 0) = true := decide_eq_true q0
            have tq2 : decide (0 < p.msg.qos) = true := decide_eq_true q0
            have q1 : 0 < p.msg.qos := q0
            have HC3 := Aside0.mk (Kd.R_reads' HE3.out.row).2.2
            have HL5 := Aside0.mk (show txtE p.msg.topic ++ [p.id / 256 % 256, p.id % 256] = l4 by rw [HL4.out, if_pos q0]; rfl)
            go_wp2_with (go_at_call 112; (with_reducible refine (putNumber_any (txtE p.msg.topic) p.id A3 c3 w3 HC3.out (Nat.le_trans (txt_len HTT.out) (by decide))).mono ?_); rintro e w4 ⟨v4, rfl, hR4, hB4⟩; rw [HL5.out] at hR4; have HE4 := Aside0.mk (HE3.out.step hR4 (Nat.le_refl _) hB4); clear hR4 hB4)
            all_goals first
              | (exfalso; omega)
              | (go_meet; case rel => exact HE4)
          · have HL5 := Aside0.mk (show txtE p.msg.topic = l4 by rw [HL4.out, if_neg q0, List.append_nil])
            have tq : decide (p.msg.qos > 0) = false := decide_eq_false q0
            have q1 : ¬ 0 < p.msg.qos := q0
            go_wp2_with fail
            all_goals first
              | (exfalso; omega)
              | (go_meet; case rel => exact ⟨by rw [← HL5.out]; exact HE3.out⟩)
        case rest =>
          have HE4 := hcut
          clear hcut x19 x21 HE3
          obtain ⟨A4, c4, hv4⟩ := Kd.R_slice HE4.out.row
          subst hv4
          have x18 : wc.cell? ⟨w.heap.size, 18, none⟩ = some (.slice Am p.msg.payload.length nm) := HCL.out wc HE4.out.bel 18
          have HL6 := Aside0.mk (show l4.length + p.msg.payload.length ≤ 268435455 by have := HLN.out; rw [HE.out, List.length_append] at this; exact this)
          go_wp2_with (at_builtin; refine Kd.R_append_rows (Kd.int .u8) (w0 := X) X.heap.size rfl (.tmp 86) (.tmp 89) 22 5 (.int .u8 0) 1 rfl Tryz.underlying22 infoU8 rfl (by decide) (by omega) (.slice A4 l4.length c4) l4 p.msg.payload Am _ nm (fun _ => True) (fun _ => False) rfl rfl HE4.out.row (Kd.C_below HMP.out HE4.out.bel) (fun _ _ h => h) (fun _ h => h.elim) (fun _ _ => trivial) HE4.out.bel HE4.out.bel.size (by have := HL6.out; omega) ?_)
          intro v7 w7 hR7 hB7 _ _
          have HR7 := Aside0.mk hR7
          have HB7 := Aside0.mk hB7
          clear hR7 hB7
          go_wp2
          go_ret
          exact ⟨_, rfl, by rw [HE.out]; exact Kd.R_lower HR7.out HBX.out.size, HBX.out.trans (HB7.out.mono HBX.out.size)⟩
      · have t3 : (p.kind == 3) = false := by simp [k3]
        by_cases kk : p.kind = 12 ∨ p.kind = 13 ∨ p.kind = 14
        · have HE := Aside0.mk (show fldE p = [] by unfold fldE; rw [if_neg k1, if_neg k2, if_neg k3, if_pos kk])
          rcases kk with k | k | k
          · have t12 : (p.kind == 12) = true := by simp [k]
            clear k1 k2 k3 k
            go_wp2_with fail
            go_ret
            exact ⟨_, rfl, by rw [HE.out]; exact Kd.R_nil _ _ _ _ _, HBX.out⟩
          · have t12 : (p.kind == 12) = false := by simp [k]
            have t13 : (p.kind == 13) = true := by simp [k]
            clear k1 k2 k3 k
            go_wp2_with fail
            go_ret
            exact ⟨_, rfl, by rw [HE.out]; exact Kd.R_nil _ _ _ _ _, HBX.out⟩
          · have t12 : (p.kind == 12) = false := by simp [k]
            have t13 : (p.kind == 13) = false := by simp [k]
            have t14 : (p.kind == 14) = true := by simp [k]
            clear k1 k2 k3 k
            go_wp2_with fail
            go_ret
            exact ⟨_, rfl, by rw [HE.out]; exact Kd.R_nil _ _ _ _ _, HBX.out⟩
        · have t12 : (p.kind == 12) = false := beq_eq_false_iff_ne.2 (by omega)
          have t13 : (p.kind == 13) = false := beq_eq_false_iff_ne.2 (by omega)
          have t14 : (p.kind == 14) = false := beq_eq_false_iff_ne.2 (by omega)
          have HE := Aside0.mk (show fldE p = twoE p.id ++ asksE p.asks ++ codesE p.codes ++ filtE' p.filters by unfold fldE; rw [if_neg k1, if_neg k2, if_neg k3, if_neg kk]; rfl)
          have x21 : X.cell? ⟨w.heap.size, 21, none⟩ = some (.int .i64 p.id) := HCL.out X (Below.refl _ _) 21
          clear k1 k2 k3 kk
          go_wp2_with (go_at_call 112; (with_reducible refine (putNumber_len [] p.id none 0 0 X rfl (Kd.C_nil _ _) (by decide)).mono ?_); rintro e w3 ⟨v3, rfl, hR3, hB3⟩; have HE3 := Aside0.mk (show EncB X w3 v3 (twoE p.id) from ⟨hR3, hB3⟩); have x22 : w3.cell? ⟨w.heap.size, 22, none⟩ = some (.slice Aa p.asks.length na) := HCL.out w3 hB3 22; clear hR3 hB3)
          have HTL := Aside0.mk (show (twoE p.id).length + (asksE p.asks).length + (codesE p.codes).length + (filtE' p.filters).length ≤ 268435455 by have := HLN.out; rw [HE.out] at this; simp only [List.length_append] at this; exact this)
          have HLE := Aside0.mk (And.intro (show p.asks.length ≤ 268435455 by have := HTL.out; have := asks_len p.asks; omega) (And.intro (show p.codes.length ≤ 268435455 by have := HTL.out; have := codesE_len p.codes; omega) (show p.filters.length ≤ 268435455 by have := HTL.out; have := fils_len p.filters; omega)))
          clear x21 x22 t1 t2 t3 t12 t13 t14 x0
          go_loopg [3, 18] p.asks.length (fun q g i wr => ∃ (k : Nat) (v0 : Value), v0 = g ∧ i = .int .i64 (k : Int) ∧ k + q = p.asks.length ∧ Aside0 (EncB X wr v0 (twoE p.id ++ asksE (p.asks.take k))))
          case atStart => exact ⟨0, _, rfl, rfl, by omega, ⟨by simpa [asksE] using HE3.out⟩⟩
          case round =>
            obtain ⟨k, v0, rfl, rfl, hkq, HER⟩ := hrel
            clear HE3
            rcases Nat.lt_or_ge k p.asks.length with hk | hk
            · have t0 : decide ((k : Int) < (p.asks.length : Int)) = true := decide_eq_true (by omega)
              have hkl := HLE.out.1
              have ek : wrap64 ((k : Int) + 1) = (k : Int) + 1 := by unfold wrap64; omega
              obtain ⟨q1, rfl⟩ : ∃ q1, gk = q1 + 1 := ⟨gk - 1, by omega⟩
              obtain ⟨ad1, hA1, c10, cx⟩ := ask_at (Kd.C_below HAS.out HER.out.bel) k hk hk
              subst hA1
              have c11 : wr.cell? { block := (ad1.add (k * 2)).block, off := (ad1.add (k * 2)).off + 1 } = some (.int .i64 p.asks[k].qos) := by
                have h3 := cell_nospot cx
                rw [Addr.add_off1] at h3
                exact h3
              clear cx
              have HAF := Aside0.mk (HRT.out.asks p.asks[k] (List.getElem_mem hk))
              have HTK := Aside0.mk (asksE_take p.asks k hk)
              obtain ⟨a, hae⟩ : ∃ a, a = p.asks[k] := ⟨_, rfl⟩
              rw [← hae] at c10 c11 HAF HTK
              obtain ⟨l0, hl0⟩ : ∃ l0, l0 = twoE p.id ++ asksE (p.asks.take k) := ⟨_, rfl⟩
              rw [← hl0] at HER
              have HL1 := Aside0.mk (show twoE p.id ++ asksE (p.asks.take (k + 1)) = l0 ++ (txtE a.filter ++ [a.qos % 256]) by rw [HTK.out, hl0, List.append_assoc])
              have HBL := Aside0.mk (show (l0.length + (txtE a.filter ++ [a.qos % 256]).length) * 1 ≤ 140737488355328 by
                have h1 := congrArg List.length HL1.out
                have h2 := asksE_le p.asks (k + 1)
                have h3 := HTL.out
                simp only [List.length_append] at h1 ⊢
                omega)
              have hlt : ((k : Int) < (p.asks.length : Int)) := by omega
              have h0 : (0 : Int) ≤ (k : Int) := by omega
              have HKQ := Aside0.mk hkq
              clear hkq hk hkl hae hl0 HTK
              go_upto_region 7 with fail
              obtain ⟨Z, hZ⟩ : ∃ Z : World, Z = wr.alloc (.cells #[.string a.filter, .int .i64 a.qos] 124) := ⟨_, rfl⟩
              obtain ⟨E, hE⟩ : ∃ E, E = wr.heap.size := ⟨_, rfl⟩
              have hZE : Z.heap[E]? = some (.cells #[.string a.filter, .int .i64 a.qos] 124 (0, 0)) := by rw [hZ, hE]; exact heap_alloc_new wr _
              have y0 : Z.cell? ⟨E, 0, none⟩ = some (.string a.filter) := blk_cell hZE 0
              have y1 : Z.cell? ⟨E, 1, none⟩ = some (.int .i64 a.qos) := blk_cell hZE 1
              have HEZ := Aside0.mk (show EncB X Z v0 l0 from HER.out.below (by rw [hZ]; exact below_alloc (Below.refl _ _) _))
              refine wp_wld (w2 := Z) (by rw [hZ]) ?_
              rw [← hE]
              clear hZ hE hZE c10 c11 HER
              refine start_ (n := 11) (S := fun w' => w'.cell? ⟨E, 0, none⟩ = some (.string a.filter) ∧ w'.cell? ⟨E, 1, none⟩ = some (.int .i64 a.qos)) (ds := [8, 9]) #[false, false, false, false, false, false, false, false, false, false, false] (by kernel_rfl) rfl rfl ⟨y0, y1⟩ (fun hHeld => ?_)
              refine pure_ (i := 0) (N := some 22) (v := ?_) (a' := ?_) #[true, false, false, false, false, false, false, false, false, false, false] rfl rfl (by kernel_rfl) (fun _ _ _ h => h) (Or.inl ⟨by rfl, ?_⟩) ?_ ?_
              rotate_left
              · intro w'
                go_simp
                with_reducible rfl
              rotate_left
              · simp only [Act.put, List.setIfInBounds_toArray, List.set_cons_zero, List.set_cons_succ, i64_w, i32_w]
                rfl
              refine pure_ (i := 1) (N := some 23) (v := ?_) (a' := ?_) #[true, true, false, false, false, false, false, false, false, false, false] rfl rfl (by kernel_rfl) (fun _ _ _ h => h) (Or.inl ⟨by rfl, ?_⟩) ?_ ?_
              rotate_left
              · intro w'
                go_simp
                with_reducible rfl
              rotate_left
              · simp only [Act.put, List.setIfInBounds_toArray, List.set_cons_zero, List.set_cons_succ, i64_w, i32_w]
                rfl
              refine pure_ (i := 4) (N := some 26) (v := ?_) (a' := ?_) #[true, true, false, false, true, false, false, false, false, false, false] rfl rfl (by kernel_rfl) (fun _ _ _ h => h) (Or.inl ⟨by rfl, ?_⟩) ?_ ?_
              rotate_left
              · intro w'
                go_simp
                with_reducible rfl
              rotate_left
              · simp only [Act.put, List.setIfInBounds_toArray, List.set_cons_zero, List.set_cons_succ, i64_w, i32_w]
                rfl
              refine take_ (i := 2) (N := some 24) (v := ?_) (a' := ?_) #[true, true, true, false, true, false, false, false, false, false, false] rfl rfl (by kernel_rfl) (fun _ _ _ h => h) (Or.inl ⟨by rfl, ?_⟩) hHeld ?_ ?_
              rotate_left
              · rintro w' ⟨s0, s1⟩
                go_simp
                with_reducible rfl
              rotate_left
              · simp only [Act.put, List.setIfInBounds_toArray, List.set_cons_zero, List.set_cons_succ, i64_w, i32_w]
                rfl
              refine take_ (i := 5) (N := some 27) (v := ?_) (a' := ?_) #[true, true, true, false, true, true, false, false, false, false, false] rfl rfl (by kernel_rfl) (fun _ _ _ h => h) (Or.inl ⟨by rfl, ?_⟩) hHeld ?_ ?_
              rotate_left
              · rintro w' ⟨s0, s1⟩
                go_simp
                with_reducible rfl
              rotate_left
              · simp only [Act.put, List.setIfInBounds_toArray, List.set_cons_zero, List.set_cons_succ, i64_w, i32_w]
                rfl
              refine pure_ (i := 6) (N := some 28) (v := ?_) (a' := ?_) #[true, true, true, false, true, true, true, false, false, false, false] rfl rfl (by kernel_rfl) (fun _ _ _ h => h) (Or.inl ⟨by rfl, ?_⟩) ?_ ?_
              rotate_left
              · intro w'
                go_simp
                with_reducible rfl
              rotate_left
              · simp only [Act.put, List.setIfInBounds_toArray, List.set_cons_zero, List.set_cons_succ, i64_w, i32_w]
                rfl
              refine join_ (σ := Value × Nat) 3 #[true, true, true, true, true, true, true, true, false, false, false] (fun s => [(25, s.1), (29, .slice (some ⟨s.2, 0, none⟩) 1 1)]) (fun s w' => AskF Z E a s.1 s.2 w') ?_ ?_
              rotate_left
              · intro hCont
                refine two_ (i := 3) (j := 7) (Ni := some 25) (Nj := some 29) #[true, true, true, true, true, true, true, false, false, false, false] #[true, true, true, false, true, true, true, true, false, false, false] rfl rfl rfl rfl (by kernel_rfl) (by decide) (by decide) (fun K hK => ?_) (fun K hK => ?_)
                · skip
                  refine goes_ Tryz.func111 (by kernel_rfl) rfl #[.slice none 0 0, .string a.filter] (by rfl) rfl rfl (by simp only [List.map_toArray, List.map_cons, List.map_nil]; rfl) ?_
                  with_reducible refine (ctext_any [] a.filter none 0 0 _ rfl (Kd.C_nil _ _) (by decide) HAF.out.1 (txtE a.filter) (by rw [List.nil_append])).mono ?_
                  rintro e w4 ⟨v4, rfl, hR4, hB4⟩
                  refine ⟨_, rfl, ?_⟩
                  refine hK.out _ _ ⟨cell_keep2 hB4 _ _ hHeld.1, cell_keep2 hB4 _ _ hHeld.2⟩ (fun hHeld => ?_)
                  clear hK K
                  refine norm_ (a' := ?_) ?_ ?_
                  rotate_left
                  · show Act.put _ (some 25) _ = _
                    simp only [Act.put, List.setIfInBounds_toArray, List.set_cons_zero, List.set_cons_succ, i64_w, i32_w]
                    rfl
                  refine one_ (i := 7) (N := some 29) #[true, true, true, true, true, true, true, true, false, false, false] rfl rfl (by kernel_rfl) (by decide) (fun K hK => ?_)
                  refine value_ (w1 := w4.alloc (.cells #[.int .u8 (a.qos % 256)] 5)) (v := ?_) (by rfl) rfl ?_ ?_
                  rotate_left 1
                  · go_simp
                    constructor
                    · rfl
                    · rfl
                  refine hK.out _ _ ⟨cell_keep2 (below_alloc (Below.refl _ _) _) _ _ hHeld.1, cell_keep2 (below_alloc (Below.refl _ _) _) _ _ hHeld.2⟩ (fun hHeld => ?_)
                  clear hK K
                  refine norm_ (a' := ?_) ?_ ?_
                  rotate_left
                  · show Act.put _ (some 29) _ = _
                    simp only [Act.put, List.setIfInBounds_toArray, List.set_cons_zero, List.set_cons_succ, i64_w, i32_w]
                    rfl
                  exact norm_ (by simp only [putAll, Act.put, List.setIfInBounds_toArray, List.set_cons_zero, List.set_cons_succ]) (hCont (v4, w4.heap.size) _ (AskF.callFirst hR4 hB4))
                · skip
                  refine value_ (w1 := Z.drew.alloc (.cells #[.int .u8 (a.qos % 256)] 5)) (v := ?_) (by rfl) rfl ?_ ?_
                  rotate_left 1
                  · go_simp
                    constructor
                    · rfl
                    · rfl
                  refine hK.out _ _ ⟨cell_keep2 (below_alloc (Below.refl _ _) _) _ _ hHeld.1, cell_keep2 (below_alloc (Below.refl _ _) _) _ _ hHeld.2⟩ (fun hHeld => ?_)
                  clear hK K
                  refine norm_ (a' := ?_) ?_ ?_
                  rotate_left
                  · show Act.put _ (some 29) _ = _
                    simp only [Act.put, List.setIfInBounds_toArray, List.set_cons_zero, List.set_cons_succ, i64_w, i32_w]
                    rfl
                  refine one_ (i := 3) (N := some 25) #[true, true, true, true, true, true, true, true, false, false, false] rfl rfl (by kernel_rfl) (by decide) (fun K hK => ?_)
                  refine goes_ Tryz.func111 (by kernel_rfl) rfl #[.slice none 0 0, .string a.filter] (by rfl) rfl rfl (by simp only [List.map_toArray, List.map_cons, List.map_nil]; rfl) ?_
                  with_reducible refine (ctext_any [] a.filter none 0 0 _ rfl (Kd.C_nil _ _) (by decide) HAF.out.1 (txtE a.filter) (by rw [List.nil_append])).mono ?_
                  rintro e w4 ⟨v4, rfl, hR4, hB4⟩
                  refine ⟨_, rfl, ?_⟩
                  refine hK.out _ _ ⟨cell_keep2 hB4 _ _ hHeld.1, cell_keep2 hB4 _ _ hHeld.2⟩ (fun hHeld => ?_)
                  clear hK K
                  refine norm_ (a' := ?_) ?_ ?_
                  rotate_left
                  · show Act.put _ (some 25) _ = _
                    simp only [Act.put, List.setIfInBounds_toArray, List.set_cons_zero, List.set_cons_succ, i64_w, i32_w]
                    rfl
                  exact norm_ (by simp only [putAll, Act.put, List.setIfInBounds_toArray, List.set_cons_zero, List.set_cons_succ]) (hCont (v4, Z.heap.size) _ (AskF.allocFirst hR4 hB4))
              rintro ⟨v5, G5⟩ w5 hD
              have HD5 := Aside0.mk hD
              have hHeld : w5.cell? ⟨E, 0, none⟩ = some (.string a.filter) ∧ w5.cell? ⟨E, 1, none⟩ = some (.int .i64 a.qos) := ⟨cell_keep2 hD.bel _ _ y0, cell_keep2 hD.bel _ _ y1⟩
              clear hD
              refine norm_ (a' := ?_) ?_ ?_
              rotate_left
              · simp only [putAll, Act.put, List.setIfInBounds_toArray, List.set_cons_zero, List.set_cons_succ]
                rfl
              refine last_ (i := 8) (N := some 30) #[true, true, true, true, true, true, true, true, true, false, false] rfl rfl (by kernel_rfl) (by decide) (fun K hK => ?_)
              refine Kd.R_append_rows_step (Kd.int .u8) (w0 := Z) Z.heap.size (by rfl) (.tmp 25) (.tmp 29) 22 5 (.int .u8 0) 1 (by rfl) Tryz.underlying22 infoU8 (by rfl) (by decide) (by omega) v5 (txtE a.filter) [a.qos % 256] _ _ _ (fun _ => True) (fun _ => False) (by rfl) (by rfl) HD5.out.row HD5.out.lit (fun _ _ h => h) (fun _ h => h.elim) (fun _ _ => trivial) HD5.out.bel HD5.out.bel.size ?aL ?_
              case aL => have := txt_len HAF.out.1; simp; omega
              intro v6 w6 hR6 hB6 _ _
              have HR6 := Aside0.mk hR6
              have HB6 := Aside0.mk hB6
              obtain ⟨A6, c6, hv6⟩ := Kd.R_slice hR6
              subst hv6
              clear hR6 hB6
              refine hK.out _ _ ?_
              clear hK K
              refine norm_ (a' := ?_) ?_ ?_
              rotate_left
              · show Act.put _ (some 30) _ = _
                simp only [Act.put, List.setIfInBounds_toArray, List.set_cons_zero, List.set_cons_succ, i64_w, i32_w]
                rfl
              refine last_ (i := 9) (N := some 31) #[true, true, true, true, true, true, true, true, true, true, false] rfl rfl (by kernel_rfl) (by decide) (fun K hK => ?_)
              refine Kd.R_append_rows_step (Kd.int .u8) (w0 := X) X.heap.size (by rfl) (.tmp 22) (.tmp 30) 22 5 (.int .u8 0) 1 (by rfl) Tryz.underlying22 infoU8 (by rfl) (by decide) (by omega) v0 l0 (txtE a.filter ++ [a.qos % 256]) _ _ _ (fun _ => True) (fun _ => False) (by rfl) (by rfl) (Kd.R_below HEZ.out.row HB6.out) (Kd.R_reads' HR6.out).2.2 (fun _ _ h => h) (fun _ h => h.elim) (fun _ _ => trivial) (HEZ.out.bel.trans (HB6.out.mono HEZ.out.bel.size)) (Nat.le_trans HEZ.out.bel.size HB6.out.size) ?bL ?_
              case bL => exact HBL.out
              intro v7 w7 hR7 hB7 _ _
              have HE7 := Aside0.mk (show EncB X w7 v7 (l0 ++ (txtE a.filter ++ [a.qos % 256])) from ⟨hR7, hB7⟩)
              clear hR7 hB7
              refine hK.out _ _ ?_
              clear hK K
              refine norm_ (a' := ?_) ?_ ?_
              rotate_left
              · show Act.put _ (some 31) _ = _
                simp only [Act.put, List.setIfInBounds_toArray, List.set_cons_zero, List.set_cons_succ, i64_w, i32_w]
                rfl
              refine pure_ (i := 10) (N := some 3) (v := ?_) (a' := ?_) #[true, true, true, true, true, true, true, true, true, true, true] rfl rfl (by kernel_rfl) (fun _ _ _ h => h) (Or.inl ⟨by rfl, ?_⟩) ?_ ?_
              rotate_left
              · intro w'
                go_simp
                with_reducible rfl
              rotate_left
              · simp only [Act.put, List.setIfInBounds_toArray, List.set_cons_zero, List.set_cons_succ, i64_w, i32_w]
                rfl
              refine done_ (by kernel_rfl) ?_
              clear hHeld y0 y1
              rw [← HL1.out] at HE7
              go_wp2_with fail
              go_roundg q1
              case measure => exact Nat.lt_succ_self _
              case rel => exact ⟨k + 1, _, rfl, by rw [show (((k + 1 : Nat) : Int)) = (k : Int) + 1 by omega]; try rw [ek], by have := HKQ.out; omega, HE7⟩
            · have t0 : decide ((k : Int) < (p.asks.length : Int)) = false := decide_eq_false (by omega)
              have t0n : decide (k < p.asks.length) = false := decide_eq_false (by omega)
              have hER := HER.out
              rw [List.take_of_length_le hk] at hER
              have HE3 := Aside0.mk hER
              have x23 : wr.cell? ⟨w.heap.size, 23, none⟩ = some (.slice Ac p.codes.length nc) := HCL.out wr hER.bel 23
              clear hkq hk HER hER
              obtain ⟨l1, hl1⟩ : ∃ l1, l1 = twoE p.id ++ asksE p.asks := ⟨_, rfl⟩
              rw [← hl1] at HE3
              have HL1 := Aside0.mk hl1
              have HN1 := Aside0.mk (show l1.length + (codesE p.codes).length + (filtE' p.filters).length ≤ 268435455 by have := HTL.out; rw [hl1, List.length_append]; exact this)
              clear hl1
              go_wp2_with fail
              clear x23 t0 t0n
              go_loopg [3, 36] p.codes.length (fun q g i wr => ∃ (k : Nat) (v0 : Value), v0 = g ∧ i = .int .i64 (k : Int) ∧ k + q = p.codes.length ∧ Aside0 (EncB X wr v0 (l1 ++ codesE (p.codes.take k))))
              case atStart => exact ⟨0, _, rfl, rfl, by omega, ⟨by simpa [codesE] using HE3.out⟩⟩
              case round =>
                obtain ⟨k, v0, rfl, rfl, hkq, HER⟩ := hrel
                clear HE3
                rcases Nat.lt_or_ge k p.codes.length with hk | hk
                · have t0 : decide ((k : Int) < (p.codes.length : Int)) = true := decide_eq_true (by omega)
                  have hkl := HLE.out.2.1
                  have ek : wrap64 ((k : Int) + 1) = (k : Int) + 1 := by unfold wrap64; omega
                  obtain ⟨q1, rfl⟩ : ∃ q1, gk = q1 + 1 := ⟨gk - 1, by omega⟩
                  obtain ⟨ad1, hA1, c1⟩ := Kd.at_int (Kd.C_below HCO.out HER.out.bel) (k : Int) (by omega) (by omega)
                  subst hA1
                  rw [Int.toNat_natCast] at c1
                  have hrd : rd p.codes (k : Int) = p.codes[k] := by unfold rd; simp [List.getD_eq_getElem?_getD, List.getElem?_eq_getElem hk]
                  have hTK := codesE_take p.codes k hk
                  rw [hrd] at c1
                  generalize p.codes[k] = x at *
                  obtain ⟨l0, hl0⟩ : ∃ l0, l0 = l1 ++ codesE (p.codes.take k) := ⟨_, rfl⟩
                  rw [← hl0] at HER
                  have HL2 := Aside0.mk (show l1 ++ codesE (p.codes.take (k + 1)) = l0 ++ [x % 256] by rw [hTK, hl0, List.append_assoc])
                  have HBL := Aside0.mk (show (l0.length + 1) * 1 ≤ 140737488355328 by
                    have h2 := codesE_le p.codes k
                    have h3 := HN1.out
                    rw [hl0, List.length_append]; omega)
                  have hlt : ((k : Int) < (p.codes.length : Int)) := by omega
                  have h0 : (0 : Int) ≤ (k : Int) := by omega
                  have HKQ := Aside0.mk hkq
                  clear hkq hk hkl hl0 hTK hrd
                  go_wp2_with (at_builtin; refine Kd.R_append_rows (Kd.int .u8) (w0 := X) X.heap.size rfl (.tmp 40) (.tmp 43) 22 5 (.int .u8 0) 1 rfl Tryz.underlying22 infoU8 rfl (by decide) (by omega) v0 l0 [x % 256] _ _ _ (fun _ => True) (fun _ => False) rfl rfl (Kd.R_alloc HER.out.row _) (C_lit8 wr [x % 256] (by simp)) (fun _ _ h => h) (fun _ h => h.elim) (fun _ _ => trivial) (HER.out.bel.alloc HER.out.bel.size _) (by have := HER.out.bel.size; simp; omega) HBL.out ?_)
                  intro v7 w7 hR7 hB7 _ _
                  have HE7 := Aside0.mk (show EncB X w7 v7 (l1 ++ codesE (p.codes.take (k + 1))) from by rw [HL2.out]; exact ⟨hR7, hB7⟩)
                  clear hR7 hB7
                  go_wp2_with fail
                  go_roundg q1
                  case measure => exact Nat.lt_succ_self _
                  case rel => exact ⟨k + 1, _, rfl, by rw [show (((k + 1 : Nat) : Int)) = (k : Int) + 1 by omega]; try rw [ek], by have := HKQ.out; omega, HE7⟩
                · have t0 : decide ((k : Int) < (p.codes.length : Int)) = false := decide_eq_false (by omega)
                  have t0n : decide (k < p.codes.length) = false := decide_eq_false (by omega)
                  have hER := HER.out
                  rw [List.take_of_length_le hk] at hER
                  have HE3 := Aside0.mk hER
                  have x24 : wr.cell? ⟨w.heap.size, 24, none⟩ = some (.slice Af p.filters.length nf) := HCL.out wr hER.bel 24
                  clear hkq hk HER hER
                  obtain ⟨l2, hl2⟩ : ∃ l2, l2 = l1 ++ codesE p.codes := ⟨_, rfl⟩
                  rw [← hl2] at HE3
                  have HL2 := Aside0.mk hl2
                  have HN2 := Aside0.mk (show l2.length + (filtE' p.filters).length ≤ 268435455 by have := HN1.out; rw [hl2, List.length_append]; exact this)
                  clear hl2
                  go_wp2_with fail
                  clear x24 t0 t0n
                  go_loopg [3, 49] p.filters.length (fun q g i wr => ∃ (k : Nat) (v0 : Value), v0 = g ∧ i = .int .i64 (k : Int) ∧ k + q = p.filters.length ∧ Aside0 (EncB X wr v0 (l2 ++ filtE' (p.filters.take k))))
                  case atStart => exact ⟨0, _, rfl, rfl, by omega, ⟨by simpa [filtE'] using HE3.out⟩⟩
                  case round =>
                    obtain ⟨k, v0, rfl, rfl, hkq, HER⟩ := hrel
                    clear HE3
                    rcases Nat.lt_or_ge k p.filters.length with hk | hk
                    · have t0 : decide ((k : Int) < (p.filters.length : Int)) = true := decide_eq_true (by omega)
                      have hkl := HLE.out.2.2
                      have ek : wrap64 ((k : Int) + 1) = (k : Int) + 1 := by unfold wrap64; omega
                      obtain ⟨q1, rfl⟩ : ∃ q1, gk = q1 + 1 := ⟨gk - 1, by omega⟩
                      obtain ⟨ad1, hA1, c1⟩ := Kd.at_string (Kd.C_below HFI.out HER.out.bel) (k : Int) (by omega) (by omega)
                      subst hA1
                      rw [Int.toNat_natCast] at c1
                      have hrd : rdOf ByteArray.empty p.filters (k : Int) = p.filters[k] := by unfold rdOf; simp [List.getD_eq_getElem?_getD, List.getElem?_eq_getElem hk]
                      have hTK := filtE_take p.filters k hk
                      have HAF := Aside0.mk (HRT.out.fils p.filters[k] (List.getElem_mem hk))
                      rw [hrd] at c1
                      generalize p.filters[k] = x at *
                      obtain ⟨l0, hl0⟩ : ∃ l0, l0 = l2 ++ filtE' (p.filters.take k) := ⟨_, rfl⟩
                      rw [← hl0] at HER
                      have HL3 := Aside0.mk (show l2 ++ filtE' (p.filters.take (k + 1)) = l0 ++ txtE x by rw [hTK, hl0, List.append_assoc])
                      have HBL := Aside0.mk (show (l0.length + (txtE x).length) * 1 ≤ 140737488355328 by
                        have h1 := congrArg List.length HL3.out
                        have h2 := filtE_le p.filters (k + 1)
                        have h3 := HN2.out
                        simp only [List.length_append] at h1
                        omega)
                      have hlt : ((k : Int) < (p.filters.length : Int)) := by omega
                      have h0 : (0 : Int) ≤ (k : Int) := by omega
                      have HKQ := Aside0.mk hkq
                      clear hkq hk hkl hl0 hTK hrd
                      go_wp2_with (first
                        | (go_at_call 111; (with_reducible refine (ctext_any [] x none 0 0 wr rfl (Kd.C_nil _ _) (by decide) HAF.out (txtE x) (by rw [List.nil_append])).mono ?_); rintro e w4 ⟨v4, rfl, hR4, hB4⟩; obtain ⟨A4, c4, hv4⟩ := Kd.R_slice hR4; subst hv4; have HR4 := Aside0.mk hR4; have HB4 := Aside0.mk hB4; clear hR4 hB4)
                        | (at_builtin; refine Kd.R_append_rows (Kd.int .u8) (w0 := X) X.heap.size rfl (.tmp 53) (.tmp 55) 22 5 (.int .u8 0) 1 rfl Tryz.underlying22 infoU8 rfl (by decide) (by omega) v0 l0 (txtE x) A4 _ c4 (fun _ => True) (fun _ => False) rfl rfl (Kd.R_below HER.out.row HB4.out) (Kd.R_reads' HR4.out).2.2 (fun _ _ h => h) (fun _ h => h.elim) (fun _ _ => trivial) (HER.out.bel.trans (HB4.out.mono HER.out.bel.size)) (Nat.le_trans HER.out.bel.size HB4.out.size) HBL.out ?_))
                      intro v7 w7 hR7 hB7 _ _
                      have HE7 := Aside0.mk (show EncB X w7 v7 (l2 ++ filtE' (p.filters.take (k + 1))) from by rw [HL3.out]; exact ⟨hR7, hB7⟩)
                      clear hR7 hB7
                      go_wp2_with fail
                      go_roundg q1
                      case measure => exact Nat.lt_succ_self _
                      case rel => exact ⟨k + 1, _, rfl, by rw [show (((k + 1 : Nat) : Int)) = (k : Int) + 1 by omega]; try rw [ek], by have := HKQ.out; omega, HE7⟩
                    · have t0 : decide ((k : Int) < (p.filters.length : Int)) = false := decide_eq_false (by omega)
                      have t0n : decide (k < p.filters.length) = false := decide_eq_false (by omega)
                      have hER := HER.out
                      rw [List.take_of_length_le hk] at hER
                      have HE3 := Aside0.mk hER
                      clear hkq hk HER hER
                      go_wp2
                      go_ret
                      exact ⟨_, rfl, by rw [HE.out, ← HL1.out, ← HL2.out]; exact Kd.R_lower HE3.out.row HBX.out.size, HBX.out.trans (HE3.out.bel.mono HBX.out.size)⟩
end Go.Proofs.YthlbcgaegaoanaaGreatDoor.Cr

namespace Go.Proofs.YthlbcgaegaoanaaGreatDoor.Cr
open Go Go.RowKit Go.Proofs.YthlbcgaegaoanaaGreatDoorW.PrintWords Go.Proofs.YthlbcgaegaoanaaGreatDoorW.PrintLast Go.Proofs.YthlbcgaegaoanaaGreatDoorW.PrintMore Go.Proofs.YthlbcgaegaoanaaGreatDoor.Kinds Go.Proofs.YthlbcgaegaoanaaGreatDoor.Utf Go.Proofs.YthlbcgaegaoanaaGreatDoor.Chk Go.Proofs.YthlbcgaegaoanaaGreatDoor.Rdr
set_option linter.unusedVariables false
set_option linter.unusedSimpArgs false
theorem or128_all : ∀ v : Fin 256, Go.bits .or .u8 ((v.val : Nat) : Int) 128 = ((v.val % 128 + 128 : Nat) : Int) := by decide +kernel
theorem or128 (m : Int) (h0 : 0 ≤ m) : Go.bits .or .u8 (m % 256) 128 = m % 128 + 128 := by
  have h := or128_all ⟨(m % 256).toNat, by omega⟩
  simp only at h
  rw [show (((m % 256).toNat : Nat) : Int) = m % 256 by omega] at h
  rw [h]; omega
theorem encL_lenE : ∀ (f : Nat) (m : Int), 0 ≤ m → encL f m = lenE f m
  | 0, m, h => rfl
  | f + 1, m, h => by
    simp only [encL, lenE]
    by_cases hm : 128 ≤ m
    · rw [if_pos hm, if_pos hm, or128 m h, encL_lenE f (m / 128) (by omega)]
    · rw [if_neg hm, if_neg hm]
theorem flagsE_range {p : Pkt} (h : Right p) : 0 ≤ flagsE p ∧ flagsE p ≤ 15 := by
  unfold flagsE
  by_cases k3 : p.kind = 3
  · rw [if_pos k3]
    have := h.mqos
    cases p.dup <;> cases p.msg.retain <;> simp <;> omega
  · rw [if_neg k3]
    rcases kind_cases h.k1 h.k14 with e | e | e | e | e | e | e | e | e | e | e | e | e | e <;> rw [e] <;> decide
theorem head_or (k f : Int) (h1 : 1 ≤ k) (h2 : k ≤ 14) (h3 : 0 ≤ f) (h4 : f ≤ 15) : bits .or .i64 (k * 16) f = k * 16 + f := by
  rw [Rdr.or_comm, show k * 16 = k * 2 ^ 4 by omega, or_shift 4 (by omega) f k h3 (by omega) (by omega) (by omega)]
  omega
set_option maxRecDepth 100000 in
set_option maxHeartbeats 4000000 in
theorem encode_any {w : World} (hg : Gl w) (p : Pkt) (cs : List Value) (h : kPkt.K w p cs) (ha : p.asks.length ≤ 1099511627776) (hf : p.filters.length ≤ 1099511627776) (hc : p.codes.length ≤ 1099511627776) (hm : p.msg.payload.length ≤ 1099511627776) :
    Calls Tryz.prog 29 #[.agg cs.toArray] w fun e w' => ∃ v, e = .returned (.tuple #[v, .int .i64 (pchk p)]) ∧ (Kd.int .u8).R 5 w' w.heap.size (fun _ => True) v (if pchk p = 0 then encE p else []) ∧ Below w.heap.size w w' := by
  obtain ⟨L, hL⟩ : ∃ L, L = (if pchk p = 0 then encE p else []) := ⟨_, rfl⟩
  rw [← hL]
  have HRES := Aside0.mk hL
  clear hL
  obtain ⟨X, hX⟩ : ∃ X : World, X = w.alloc (.cells cs.toArray 38) := ⟨_, rfl⟩
  have hbx : Below w.heap.size w X := by rw [hX]; exact below_alloc (Below.refl w.heap.size w) _
  have HBX := Aside0.mk hbx
  have hq1 : X.heap[w.heap.size]? = some (.cells cs.toArray 38 (0, 0)) := by rw [hX]; exact heap_alloc_new w _
  have HQ := Aside0.mk hq1
  have HG := Aside0.mk (hg.below hbx hg.sz hbx.size)
  have HK := Aside0.mk (kPkt.K_below hbx h)
  have HSZ := Aside0.mk (pkt_szA h)
  have HZL := Aside0.mk (pkt_szL h)
  have HX := Aside0.mk hX
  have HSA := Aside0.mk (And.intro ha (And.intro hf hc))
  have HSM := Aside0.mk hm
  obtain ⟨Aw, nw, Ap, np, Am, nm, Aa, na, Ac, nc, Af, nf, hcs, hrr⟩ := pkt_K h
  have HC0 := Aside0.mk (show ∀ W : World, Below X.heap.size X W → W.rangeAt w.heap.size 0 cs ∧ W.cell? ⟨w.heap.size, 0, none⟩ = some (.int .i64 p.kind) from fun W hb => ⟨pkt_range ((hb.block _ (blk_lt hq1)).trans hq1), pkt_block ((hb.block _ (blk_lt hq1)).trans hq1) hcs 0⟩)
  clear hq1 hX hbx h hcs hrr ha hf hc hm hg
  go_enter Tryz.func29, Tryz.ntmps29
  go_upto_region 1 with fail
  refine wp_wld (w2 := X) (by rw [HX.out]) ?_
  clear HX
  go_upto_region 2 with (first
    | (refine wpList_load_row rfl 38 _ rfl w.heap.size rfl 38 _ (0, 0) _ HQ.out Tryz.underlying38 rfl HSZ.out ?_)
    | (go_at_call 28; (with_reducible refine (pcheck_any HG.out p cs HK.out HSA.out.1 HSA.out.2.1 HSA.out.2.2).mono ?_); rintro e w1 ⟨rfl, hB⟩; have HB1 := Aside0.mk hB; clear hB))
  by_cases hp : pchk p = 0
  · have t0 : (pchk p != 0) = false := by simp [hp]
    have HP := Aside0.mk hp
    have HRT := Aside0.mk (pchk_right hp)
    have HQ1 := Aside0.mk ((HB1.out.block _ (blk_lt HQ.out)).trans HQ.out)
    have HK1 := Aside0.mk (kPkt.K_below HB1.out HK.out)
    clear hp
    go_upto_region 5 with (first
      | (refine wpList_load_row rfl 38 _ rfl w.heap.size rfl 38 _ (0, 0) _ HQ1.out Tryz.underlying38 rfl HSZ.out ?_)
      | (go_at_call 74; (with_reducible refine (encFields_any p cs w1 HK1.out HRT.out HSA.out.1 HSA.out.2.1 HSA.out.2.2 HSM.out).mono ?_); rintro e w3 ⟨v3, rfl, hR3, hB3⟩; have HR3 := Aside0.mk hR3; have HB3 := Aside0.mk hB3; clear hR3 hB3))
    obtain ⟨A3, c3, hv3⟩ := Kd.R_slice HR3.out
    subst hv3
    have HX3 := Aside0.mk (HB1.out.trans (HB3.out.mono HB1.out.size))
    obtain ⟨z0, z1⟩ := HC0.out w3 HX3.out
    have HG3 := Aside0.mk ((HG.out.below HX3.out HG.out.sz HX3.out.size).below (w1 := w3.drew) (b := w3.heap.size) (below_drew1 (Below.refl _ _)) (HG.out.below HX3.out HG.out.sz HX3.out.size).sz (Nat.le_refl _))
    have HK3 := Aside0.mk (kPkt.K_below ((below_drew (Below.refl w3.heap.size w3))) (kPkt.K_below HX3.out HK.out))
    have HFL := Aside0.mk (show (fldE p).length ≤ 268435455 by have := len_fld HRT.out HSA.out.1 HSA.out.2.1 HSA.out.2.2 HSM.out; have := HRT.out.len; omega)
    have hk := And.intro HRT.out.k1 HRT.out.k14
    have hfr := flagsE_range HRT.out
    have ek : wrap64 (p.kind * 16) = p.kind * 16 := by unfold wrap64; omega
    have eo := head_or p.kind (flagsE p) hk.1 hk.2 hfr.1 hfr.2
    obtain ⟨hb, hhb⟩ : ∃ hb, p.kind * 16 + flagsE p = hb := ⟨_, rfl⟩
    have em : hb % 256 = hb := by omega
    have HHL := Aside0.mk (show hb :: lenE 5 (fldE p).length = [hb % 256] ++ encL 5 (lenCl ((fldE p).length : Int)) by
      rw [em]
      have := HFL.out
      rw [encL_lenE 5 _ (lenCl_range _).1]
      unfold lenCl
      rw [if_neg (by omega), if_neg (by omega)]; rfl)
    have HHB := Aside0.mk hhb
    rw [hhb] at eo
    clear hk hfr hhb em
    refine start_ (n := 12) (S := fun w' => w'.rangeAt w.heap.size 0 cs ∧ w'.cell? ⟨w.heap.size, 0, none⟩ = some (.int .i64 p.kind)) (ds := [7, 10]) #[false, false, false, false, false, false, false, false, false, false, false, false] (by kernel_rfl) rfl rfl ⟨z0, z1⟩ (fun hHeld => ?_)
    refine pure_ (i := 0) (N := some 14) (v := ?_) (a' := ?_) #[true, false, false, false, false, false, false, false, false, false, false, false] rfl rfl (by kernel_rfl) (fun _ _ _ h => h) (Or.inl ⟨by rfl, ?_⟩) ?_ ?_
    rotate_left
    · intro w'
      go_simp
      with_reducible rfl
    rotate_left
    · simp only [Act.put, List.setIfInBounds_toArray, List.set_cons_zero, List.set_cons_succ, i64_w, i32_w]
      rfl
    refine pure_ (i := 8) (N := some 22) (v := ?_) (a' := ?_) #[true, false, false, false, false, false, false, false, true, false, false, false] rfl rfl (by kernel_rfl) (fun _ _ _ h => h) (Or.inl ⟨by rfl, ?_⟩) ?_ ?_
    rotate_left
    · intro w'
      go_simp
      with_reducible rfl
    rotate_left
    · simp only [Act.put, List.setIfInBounds_toArray, List.set_cons_zero, List.set_cons_succ, i64_w, i32_w]
      rfl
    refine pure_ (i := 9) (N := some 23) (v := ?_) (a' := ?_) #[true, false, false, false, false, false, false, false, true, true, false, false] rfl rfl (by kernel_rfl) (fun _ _ _ h => h) (Or.inl ⟨by rfl, ?_⟩) ?_ ?_
    rotate_left
    · intro w'
      go_simp
      with_reducible rfl
    rotate_left
    · simp only [Act.put, List.setIfInBounds_toArray, List.set_cons_zero, List.set_cons_succ, i64_w, i32_w]
      rfl
    refine take_ (i := 1) (N := some 15) (v := ?_) (a' := ?_) #[true, true, false, false, false, false, false, false, true, true, false, false] rfl rfl (by kernel_rfl) (fun _ _ _ h => h) (Or.inl ⟨by rfl, ?_⟩) hHeld ?_ ?_
    rotate_left
    · rintro w' ⟨s0, s1⟩
      go_simp
      with_reducible rfl
    rotate_left
    · simp only [Act.put, List.setIfInBounds_toArray, List.set_cons_zero, List.set_cons_succ, i64_w, i32_w]
      rfl
    refine pure_ (i := 2) (N := some 16) (v := ?_) (a' := ?_) #[true, true, true, false, false, false, false, false, true, true, false, false] rfl rfl (by kernel_rfl) (fun _ _ _ h => h) (Or.inl ⟨by rfl, ?_⟩) ?_ ?_
    rotate_left
    · intro w'
      go_simp
      with_reducible rfl
    rotate_left
    · simp only [Act.put, List.setIfInBounds_toArray, List.set_cons_zero, List.set_cons_succ, i64_w, i32_w]
      rfl
    refine take_ (i := 3) (N := some 17) (v := .agg cs.toArray) (a' := ?_) #[true, true, true, true, false, false, false, false, true, true, false, false] rfl rfl (by kernel_rfl) (fun _ _ _ h => h) (yieldsIf_load_mid (by rfl) 38 (.tmp 1) rfl w.heap.size 0 (by rfl) cs _ (fun w' h' => h'.1) Tryz.underlying38 rfl HZL.out) hHeld ?_ ?_
    rotate_left
    · simp only [Act.put, List.setIfInBounds_toArray, List.set_cons_zero, List.set_cons_succ, i64_w, i32_w]
      rfl
    refine one_ (i := 4) (N := some 18) #[true, true, true, true, true, false, false, false, true, true, false, false] rfl rfl (by kernel_rfl) (by decide) (fun K hK => ?_)
    refine goes_ Tryz.func76 (by kernel_rfl) rfl #[.agg cs.toArray] (by rfl) rfl rfl (by simp only [List.map_toArray, List.map_cons, List.map_nil]; rfl) ?_
    with_reducible refine (flags_any HG3.out p cs HK3.out HP.out HSA.out.1 HSA.out.2.1 HSA.out.2.2).mono ?_
    rintro e w4 ⟨rfl, hB4⟩
    refine ⟨_, rfl, ?_⟩
    refine hK.out _ _ ⟨(fun i u hu => cell_keep2 hB4 _ _ (hHeld.1 i u hu)), cell_keep2 hB4 _ _ hHeld.2⟩ (fun hHeld => ?_)
    clear hK K
    refine norm_ (a' := ?_) ?_ ?_
    rotate_left
    · show Act.put _ (some 18) _ = _
      simp only [Act.put, List.setIfInBounds_toArray, List.set_cons_zero, List.set_cons_succ, i64_w, i32_w]
      rfl
    refine pure_ (i := 5) (N := some 19) (v := ?_) (a' := ?_) #[true, true, true, true, true, true, false, false, true, true, false, false] rfl rfl (by kernel_rfl) (fun _ _ _ h => h) (Or.inl ⟨by rfl, ?_⟩) ?_ ?_
    rotate_left
    · intro w'
      go_simp
      with_reducible rfl
    rotate_left
    · simp only [Act.put, List.setIfInBounds_toArray, List.set_cons_zero, List.set_cons_succ, i64_w, i32_w]
      rfl
    refine pure_ (i := 6) (N := some 20) (v := ?_) (a' := ?_) #[true, true, true, true, true, true, true, false, true, true, false, false] rfl rfl (by kernel_rfl) (fun _ _ _ h => h) (Or.inl ⟨by rfl, ?_⟩) ?_ ?_
    rotate_left
    · intro w'
      go_simp
      with_reducible rfl
    rotate_left
    · simp only [Act.put, List.setIfInBounds_toArray, List.set_cons_zero, List.set_cons_succ, i64_w, i32_w]
      rfl
    refine last_ (i := 7) (N := some 21) #[true, true, true, true, true, true, true, true, true, true, false, false] rfl rfl (by kernel_rfl) (by decide) (fun K hK => ?_)
    refine value_ (w1 := w4.alloc (.cells (nums .u8 [hb % 256]).toArray 5)) (v := ?_) (by rfl) rfl ?_ ?_
    rotate_left 1
    · go_simp
      constructor
      · rfl
      · rfl
    refine hK.out _ _ ?_
    clear hK K
    refine norm_ (a' := ?_) ?_ ?_
    rotate_left
    · show Act.put _ (some 21) _ = _
      simp only [Act.put, List.setIfInBounds_toArray, List.set_cons_zero, List.set_cons_succ, i64_w, i32_w]
      rfl
    refine last_ (i := 10) (N := some 24) #[true, true, true, true, true, true, true, true, true, true, true, false] rfl rfl (by kernel_rfl) (by decide) (fun K hK => ?_)
    refine goes_ Tryz.func75 (by kernel_rfl) rfl #[.slice (some ⟨w4.heap.size, 0, none⟩) [hb % 256].length 1, .int .i64 ((fldE p).length : Int)] (by rfl) rfl rfl (by simp only [List.map_toArray, List.map_cons, List.map_nil]; rfl) ?_
    with_reducible refine (putLength_any [hb % 256] ((fldE p).length : Int) (some ⟨w4.heap.size, 0, none⟩) 1 _ (C_lit8 w4 [hb % 256] (by simp)) (by simp) (hb :: lenE 5 (fldE p).length) HHL.out).mono ?_
    rintro e w6 ⟨v6, rfl, hR6, hB6⟩
    refine ⟨_, rfl, ?_⟩
    refine hK.out _ _ ?_
    clear hK K
    refine norm_ (a' := ?_) ?_ ?_
    rotate_left
    · show Act.put _ (some 24) _ = _
      simp only [Act.put, List.setIfInBounds_toArray, List.set_cons_zero, List.set_cons_succ, i64_w, i32_w]
      rfl
    refine pure_ (i := 11) (N := some 6) (v := ?_) (a' := ?_) #[true, true, true, true, true, true, true, true, true, true, true, true] rfl rfl (by kernel_rfl) (fun _ _ _ h => h) (Or.inl ⟨by rfl, ?_⟩) ?_ ?_
    rotate_left
    · intro w'
      go_simp
      with_reducible rfl
    rotate_left
    · simp only [Act.put, List.setIfInBounds_toArray, List.set_cons_zero, List.set_cons_succ, i64_w, i32_w]
      rfl
    refine done_ (by kernel_rfl) ?_
    obtain ⟨l0, hl0⟩ : ∃ l0, l0 = hb :: lenE 5 ((fldE p).length : Int) := ⟨_, rfl⟩
    rw [← hl0] at hR6
    have h45 : Below w3.heap.size w3 (w4.alloc (.cells (nums .u8 [hb % 256]).toArray 5)) := (drew_trans hB4).alloc hB4.size _
    have h36 : Below w3.heap.size w3 w6 := h45.trans (hB6.mono h45.size)
    have HE6 := Aside0.mk (show EncB X w6 v6 l0 from ⟨Kd.R_lower hR6 (Nat.le_trans HX3.out.size h45.size), HX3.out.trans (h36.mono HX3.out.size)⟩)
    have HF6 := Aside0.mk (Kd.C_below (Kd.R_reads' HR3.out).2.2 h36)
    have HEQ := Aside0.mk (show l0 ++ fldE p = encE p by rw [hl0, ← HHB.out]; rfl)
    have HLL := Aside0.mk (show (l0.length + (fldE p).length) * 1 ≤ 140737488355328 by
      have h1 : ∀ f m, (lenE f m).length ≤ f + 1 := by
        intro f
        induction f with
        | zero => intro m; simp [lenE]
        | succ f ih => intro m; simp only [lenE]; split <;> simp; exact ih _
      have := h1 5 ((fldE p).length : Int)
      have := HFL.out
      rw [hl0, List.length_cons]; omega)
    clear hR6 hB6 hB4 h45 h36 hl0 z0 z1 hHeld eo ek
    go_wp2_with (at_builtin; refine Kd.R_append_rows (Kd.int .u8) (w0 := X) X.heap.size rfl (.tmp 25) (.tmp 26) 22 5 (.int .u8 0) 1 rfl Tryz.underlying22 infoU8 rfl (by decide) (by omega) v6 l0 (fldE p) A3 _ c3 (fun _ => True) (fun _ => False) rfl rfl HE6.out.row HF6.out (fun _ _ h => h) (fun _ h => h.elim) (fun _ _ => trivial) HE6.out.bel HE6.out.bel.size HLL.out ?_)
    intro v7 w7 hR7 hB7 _ _
    rw [HEQ.out] at hR7
    have HR7 := Aside0.mk hR7
    have HB7 := Aside0.mk hB7
    clear hR7 hB7
    go_wp2
    go_ret2
    exact ⟨v7, by first | rfl | (rw [HP.out]; rfl), by rw [HRES.out, if_pos HP.out]; exact Kd.R_lower HR7.out HBX.out.size, HBX.out.trans (HB7.out.mono HBX.out.size)⟩
  · have t0 : (pchk p != 0) = true := by simp [hp]
    have HP := Aside0.mk hp
    clear hp
    go_wp2
    go_ret2
    exact ⟨.slice none 0 0, rfl, by rw [HRES.out, if_neg HP.out]; exact Kd.R_nil _ _ _ _ _, HBX.out.trans (HB1.out.mono HBX.out.size)⟩
end Go.Proofs.YthlbcgaegaoanaaGreatDoor.Cr

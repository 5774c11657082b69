/- crierlaw3.known: chapter 3's examples hold. No statement of the program. CodecFirm's walk: what is told of bytes is told whatever follows them. No statement of the program. -/
import Derived.Test.YthlbcgaegaoanaaGreatDoorMEncW
import Derived.Test.YthlbcgaegaoanaaGreatDoorMTold
import Derived.Lib.SlBytesConst
import Derived.Test.YthlbcgaegaoanaaGreatDoorMSame
namespace Go.Proofs.YthlbcgaegaoanaaGreatDoor.Cr
open Go Go.RowKit Go.Proofs.YthlbcgaegaoanaaGreatDoorW.PrintWords Go.Proofs.YthlbcgaegaoanaaGreatDoorW.PrintLast Go.Proofs.YthlbcgaegaoanaaGreatDoorW.PrintMore Go.Proofs.YthlbcgaegaoanaaGreatDoor.Kinds Go.Proofs.YthlbcgaegaoanaaGreatDoor.Utf Go.Proofs.YthlbcgaegaoanaaGreatDoor.Chk Go.Proofs.YthlbcgaegaoanaaGreatDoor.Rdr
set_option linter.unusedVariables false
set_option linter.unusedSimpArgs false
def kp : Pkt := { noPkt with kind := 3, msg := ⟨⟨#[97, 47, 98]⟩, [104, 105], 1, false⟩, id := 10 }
theorem kp_ok : pchk kp = 0 := by kernel_rfl
theorem kp_enc : encE kp = [50, 9, 0, 3, 97, 47, 98, 0, 10, 104, 105] := by kernel_rfl
theorem kd1 : decP [192, 128, 0] 9 = ⟨{ noPkt with kind := 12 }, 3, none⟩ := by kernel_rfl
theorem kd2 : decP [192] 9 = ⟨noPkt, 0, none⟩ := by kernel_rfl
theorem kd3 : decP [64, 3, 0, 10, 0] 9 = ⟨noPkt, 0, some (4, 15)⟩ := by kernel_rfl
theorem same3_any (l m : List Int) (A D : Option Addr) (n c k cd : Nat) (w : World) (hn : n = l.length) (hk : k = m.length) (hr : (Kd.int .u8).C w A l.length l) (hd : (Kd.int .u8).C w D m.length m) (b : Bool) (hb : ((strOfNums l).toList == (strOfNums m).toList) = b) :
    Calls Tryz.prog 59 #[.slice A n c, .slice D k cd] w fun e w' => e = .returned (.bool b) ∧ w = w' := by
  subst hn hk
  have hcv3 := Kd.C_string (P := Tryz.prog) (A := A) (c := c) Tryz.underlying22 Tryz.underlying5 Tryz.underlying9 hr
  have hcv4 := Kd.C_string (P := Tryz.prog) (A := D) (c := cd) Tryz.underlying22 Tryz.underlying5 Tryz.underlying9 hd
  clear hr hd
  have HB := Aside0.mk hb
  clear hb
  go_enter Tryz.func59, Tryz.ntmps59
  go_wp2
  go_ret
  exact ⟨by rw [← HB.out]; rfl, rfl⟩
theorem decode_len {w : World} (hg : Gl w) (l : List Int) (most : Int) (A : Option Addr) (n c : Nat) (hn : n = l.length) (hlc : l.length ≤ c) (hr : (Kd.int .u8).C w A l.length l) (hb : Bytes l) (hll : l.length ≤ 1099511627770) (r : DR) (hd : decP l most = r) :
    Calls Tryz.prog 25 #[.slice A n c, .int .i64 most] w fun e w' => DecAt w w' e r := by
  subst hn hd
  exact decode_any hg l most A c hlc hr hb hll
theorem pk_open {w : World} {base : Nat} {ok : Nat → Prop} {p : Pkt} {cs : List Value} (h : kPkt.M w base ok p cs) : (Tryz.prog.info? 38).map (·.size) = some cs.toArray.size ∧ noCells.size = cs.toArray.size ∧ cs.toArray.all (·.oneCell') = true ∧ cs.toArray[0]? = some (.int .i64 p.kind) := by
  refine ⟨pkt_szA (kPkt.K_of_M h), (show noCells.size = 25 from rfl).trans (by rw [List.size_toArray, kPkt.K_len (kPkt.K_of_M h)]; rfl), ?_, ?_⟩
  · rw [Array.all_eq_true_iff_forall_mem]
    intro u hu
    exact kPkt.K_one (kPkt.K_of_M h) u (by simpa using hu)
  · obtain ⟨vw, vp, vm, va, vc, vf, rfl, _⟩ := pkt_M h
    rfl
theorem ev_below {w w1 : World} {base : Nat} {ev : Value} {f : Option (Int × Int)} (h : EV w base ev f) (hb : Below w.heap.size w w1) : EV w1 base ev f := h.fr (Fr.of_below (fun _ => False) hb) (fun _ _ e => e.elim)
theorem lit_bytes {l : List Int} (h : l.all (fun x => decide (0 ≤ x) && decide (x ≤ 255)) = true) : Bytes l := fun x hx => by
  have := List.all_eq_true.1 h x hx
  simpa using this
theorem pk_new (w : World) (cs : List Value) : ((w.alloc (.cells noCells 38)).setRow w.heap.size cs.toArray).heap[w.heap.size]? = some (.cells cs.toArray 38 (0, 0)) ∧ Below w.heap.size w ((w.alloc (.cells noCells 38)).setRow w.heap.size cs.toArray) :=
  ⟨setRow_block (heap_alloc_new w _), setRow_below (below_alloc (Below.refl _ _) _) (Nat.le_refl _) _⟩
theorem pkt_K_mk {w : World} {p : Pkt} {Aw Ap Am Aa Ac Af : Option Addr} {nw np nm na nc nf : Nat} (hw : p.will.payload.length ≤ nw ∧ (Kd.int .u8).C w Aw p.will.payload.length p.will.payload) (hp : p.pass.length ≤ np ∧ (Kd.int .u8).C w Ap p.pass.length p.pass) (hm : p.msg.payload.length ≤ nm ∧ (Kd.int .u8).C w Am p.msg.payload.length p.msg.payload)
    (ha : p.asks.length ≤ na ∧ kAsk.C w Aa p.asks.length p.asks) (hc : p.codes.length ≤ nc ∧ (Kd.int .i64).C w Ac p.codes.length p.codes) (hf : p.filters.length ≤ nf ∧ Kd.string.C w Af p.filters.length p.filters) :
    kPkt.K w p (pktCells p (.slice Aw p.will.payload.length nw) (.slice Ap p.pass.length np) (.slice Am p.msg.payload.length nm) (.slice Aa p.asks.length na) (.slice Ac p.codes.length nc) (.slice Af p.filters.length nf)) :=
  ⟨[_], _, rfl, rfl, [_], _, rfl, rfl, [_], _, rfl, rfl, [_], _, rfl, rfl, [_], _, rfl, rfl, [_], _, rfl, rfl, _, _, rfl, msg_K_mk hw.1 hw.2, [_], _, rfl, rfl, [_], _, rfl, rfl, [_], _, rfl, rfl, [_], _, rfl, ⟨_, _, rfl, hp⟩, [_], _, rfl, rfl, [_], _, rfl, rfl, [_], _, rfl, rfl, _, _, rfl, msg_K_mk hm.1 hm.2, [_], _, rfl, rfl, [_], _, rfl, ⟨_, _, rfl, ha⟩, [_], [_], rfl, ⟨_, _, rfl, hc⟩, ⟨_, _, rfl, hf⟩⟩
theorem kC_marked (w : World) (fz : Nat × Nat) : (Kd.int .u8).C (w.alloc (.cells #[.int .u8 104, .int .u8 105] 5 fz)) (some ⟨w.heap.size, 0, none⟩) 2 [104, 105] := by
  have hc : ∀ j, (w.alloc (.cells #[.int .u8 104, .int .u8 105] 5 fz)).cell? ⟨w.heap.size, j, none⟩ = (#[.int .u8 104, .int .u8 105] : Array Value)[j]? := fun j => by
    have h := heap_alloc_new w (.cells #[.int .u8 104, .int .u8 105] 5 fz)
    simp only [World.cell?, h]
    rfl
  refine ⟨rfl, by decide, fun _ => ⟨⟨w.heap.size, 0, none⟩, rfl, fun j p hj => ⟨[.int .u8 p], rfl, rfl, fun i u hu => ?_⟩⟩⟩
  rcases i with _ | i
  · injection hu with hu
    subst hu
    rw [Addr.add_mid]
    rcases j with _ | _ | j
    · injection hj with hj; subst hj; exact hc 0
    · injection hj with hj; subst hj; exact hc 1
    · simp at hj
  · simp at hu
theorem kp_cells (v : Value) : (pktCells kp (.slice none 0 0) (.slice none 0 0) v (.slice none 0 0) (.slice none 0 0) (.slice none 0 0)).toArray = #[.int .i64 3, .int .i64 0, .bool false, .int .i64 0, .string ⟨#[]⟩, .bool false, .string ⟨#[]⟩, .slice none 0 0, .int .i64 0, .bool false, .bool false, .string ⟨#[]⟩, .bool false, .slice none 0 0, .bool false, .int .i64 0, .bool false, .string ⟨#[97, 47, 98]⟩, v, .int .i64 1, .bool false, .int .i64 10, .slice none 0 0, .slice none 0 0, .slice none 0 0] := rfl
theorem encode_kp {w W : World} (hg : Gl w) (hb0 : Below w.heap.size w W) (ad : Addr) (hC : (Kd.int .u8).C W (some ad) 2 [104, 105]) :
    Calls Tryz.prog 29 #[.agg #[.int .i64 3, .int .i64 0, .bool false, .int .i64 0, .string ⟨#[]⟩, .bool false, .string ⟨#[]⟩, .slice none 0 0, .int .i64 0, .bool false, .bool false, .string ⟨#[]⟩, .bool false, .slice none 0 0, .bool false, .int .i64 0, .bool false, .string ⟨#[97, 47, 98]⟩, .slice (some ad) 2 2, .int .i64 1, .bool false, .int .i64 10, .slice none 0 0, .slice none 0 0, .slice none 0 0]] W fun e w' => ∃ v, e = .returned (.tuple #[v, .int .i64 0]) ∧ (Kd.int .u8).R 5 w' w.heap.size (fun _ => True) v [50, 9, 0, 3, 97, 47, 98, 0, 10, 104, 105] ∧ Below w.heap.size w w' := by
  have hK : kPkt.K W kp (pktCells kp (.slice none 0 0) (.slice none 0 0) (.slice (some ad) 2 2) (.slice none 0 0) (.slice none 0 0) (.slice none 0 0)) :=
    pkt_K_mk (p := kp) ⟨Nat.le_refl _, Kd.C_nil _ _⟩ ⟨Nat.le_refl _, Kd.C_nil _ _⟩ ⟨Nat.le_refl _, hC⟩ ⟨Nat.le_refl _, Kd.C_nil _ _⟩ ⟨Nat.le_refl _, Kd.C_nil _ _⟩ ⟨Nat.le_refl _, Kd.C_nil _ _⟩
  have h := encode_any (w := W) (hg.below hb0 hg.sz hb0.size) kp _ hK (by decide) (by decide) (by decide) (by decide)
  rw [kp_cells, kp_ok, if_pos rfl, kp_enc] at h
  exact h.mono fun e w' ⟨v, h1, h2, h3⟩ => ⟨v, h1, Kd.R_lower h2 hb0.size, hb0.trans (h3.mono hb0.size)⟩
set_option maxRecDepth 100000 in
set_option maxHeartbeats 4000000 in
theorem known3_any {w : World} (hg : Gl w) : Calls Tryz.prog 24 #[] w fun e w' => e = .returned (.bool true) ∧ Below w.heap.size w w' := by
  have HG := Aside0.mk hg
  clear hg
  have kc := fun (w : World) (C : Array Value) (n c : Nat) => Lib.run_convert_bytes_const (P := Tryz.prog) w 22 5 C n c Tryz.underlying22 Tryz.underlying5
  go_enter Tryz.func24, Tryz.ntmps24
  go_upto_region 2 with (go_at_call 29; (refine (encode_kp HG.out (below_alloc (Below.refl _ _) _) _ (kC_marked w _)).mono ?_); rintro e w1 ⟨v1, rfl, hR1, hB1⟩; have HR1 := Aside0.mk hR1; have HB1 := Aside0.mk hB1; clear hR1 hB1; dsimp only)
  obtain ⟨A1, c1, hv1⟩ := Kd.R_slice HR1.out
  subst hv1
  go_upto_region 4 with (first
    | (go_at_call 27; (with_reducible refine (num_any 0 w1).mono ?_); rintro e w2 ⟨rfl, rfl⟩)
    | (go_at_call 59; (refine (same3_any [50, 9, 0, 3, 97, 47, 98, 0, 10, 104, 105] [50, 9, 0, 3, 97, 47, 98, 0, 10, 104, 105] A1 _ _ c1 _ _ _ rfl rfl (Kd.C_alloc (Kd.R_reads' HR1.out).2.2 _) (C_lit8 w1 [50, 9, 0, 3, 97, 47, 98, 0, 10, 104, 105] (by decide)) true (by simp)).mono ?_); rintro e w2 ⟨rfl, rfl⟩))
  obtain ⟨W2, hW2⟩ : ∃ W : World, W = w1.alloc (.cells #[.int .u8 50, .int .u8 9, .int .u8 0, .int .u8 3, .int .u8 97, .int .u8 47, .int .u8 98, .int .u8 0, .int .u8 10, .int .u8 104, .int .u8 105] 5) := ⟨_, rfl⟩
  have HB2 := Aside0.mk (show Below w.heap.size w W2 by rw [hW2]; exact HB1.out.alloc HB1.out.size _)
  refine wp_wld (w2 := W2) (by rw [hW2]; rfl) ?_
  have HG2 := Aside0.mk (show ∀ o, Gl (W2.alloc o) from fun o => HG.out.below (HB2.out.alloc HB2.out.size o) HG.out.sz (HB2.out.alloc HB2.out.size o).size)
  clear hW2 HR1 HB1 kc
  go_upto_region 5 with (first
    | (go_at_call 25; (refine (decode_len (HG2.out _) [192, 128, 0] 9 _ _ _ rfl (by decide) (C_lit8 W2 [192, 128, 0] (by decide)) (lit_bytes (by decide)) (by decide) _ kd1).mono ?_); rintro e w3 ⟨cs3, ev3, rfl, hM, hE, hB⟩; obtain rfl : ev3 = .nilIface := hE; have HM3 := Aside0.mk (pk_open hM); have HB3 := Aside0.mk ((below_alloc (Below.refl W2.heap.size W2) _).trans (hB.mono (by simp))); clear hM hB; dsimp only)
    | (refine wpList_store_row rfl 38 _ _ rfl w3.heap.size _ rfl rfl 38 _ (heap_alloc_new w3 (.cells noCells 38)) HM3.out.1 HM3.out.2.1 HM3.out.2.2.1 ?_))
  obtain ⟨B, hB⟩ : ∃ B, B = w3.heap.size := ⟨_, rfl⟩
  obtain ⟨W5, hW5⟩ : ∃ W : World, W = (w3.alloc (.cells noCells 38)).setRow w3.heap.size cs3.toArray := ⟨_, rfl⟩
  have hn3 := pk_new w3 cs3
  rw [← hW5] at hn3
  have HBK5 := Aside0.mk (show W5.heap[B]? = some (.cells cs3.toArray 38 (0, 0)) by rw [hB]; exact hn3.1)
  have HB5 := Aside0.mk (show Below w.heap.size w W5 from HB2.out.trans ((HB3.out.trans (hn3.2.mono HB3.out.size)).mono HB2.out.size))
  refine wp_wld (w2 := W5) (by rw [hW5]; rfl) ?_
  rw [← hB]
  have HG5 := Aside0.mk (show ∀ o, Gl (W5.alloc o) from fun o => HG.out.below (HB5.out.alloc HB5.out.size o) HG.out.sz (HB5.out.alloc HB5.out.size o).size)
  clear hB hW5 hn3 HB2 HB3 HG2
  go_upto_region 6 with (first
    | (go_at_call 25; (refine (decode_len (HG5.out _) [192] 9 _ _ _ rfl (by decide) (C_lit8 W5 [192] (by decide)) (lit_bytes (by decide)) (by decide) _ kd2).mono ?_); rintro e w6 ⟨cs6, ev6, rfl, hM, hE, hB⟩; obtain rfl : ev6 = .nilIface := hE; have HM6 := Aside0.mk (pk_open hM); have HB6 := Aside0.mk ((below_alloc (Below.refl W5.heap.size W5) _).trans (hB.mono (by simp))); clear hM hB; dsimp only)
    | (refine wpList_store_row rfl 38 _ _ rfl w6.heap.size _ rfl rfl 38 _ (heap_alloc_new w6 (.cells noCells 38)) HM6.out.1 HM6.out.2.1 HM6.out.2.2.1 ?_))
  obtain ⟨B6, hB⟩ : ∃ B, B = w6.heap.size := ⟨_, rfl⟩
  obtain ⟨W7, hW7⟩ : ∃ W : World, W = (w6.alloc (.cells noCells 38)).setRow w6.heap.size cs6.toArray := ⟨_, rfl⟩
  have hn6 := pk_new w6 cs6
  rw [← hW7] at hn6
  have h57 : Below W5.heap.size W5 W7 := HB6.out.trans (hn6.2.mono HB6.out.size)
  have HBK7 := Aside0.mk ((h57.block _ (blk_lt HBK5.out)).trans HBK5.out)
  have HB7 := Aside0.mk (show Below w.heap.size w W7 from HB5.out.trans (h57.mono HB5.out.size))
  refine wp_wld (w2 := W7) (by rw [hW7]; rfl) ?_
  rw [← hB]
  have HG7 := Aside0.mk (show ∀ o, Gl (W7.alloc o) from fun o => HG.out.below (HB7.out.alloc HB7.out.size o) HG.out.sz (HB7.out.alloc HB7.out.size o).size)
  clear hB hW7 hn6 HB5 HB6 HG5 HBK5 h57
  go_upto_region 7 with (first
    | (go_at_call 25; (refine (decode_len (HG7.out _) [64, 3, 0, 10, 0] 9 _ _ _ rfl (by decide) (C_lit8 W7 [64, 3, 0, 10, 0] (by decide)) (lit_bytes (by decide)) (by decide) _ kd3).mono ?_); rintro e w8 ⟨cs8, ev8, rfl, hM, hE, hB⟩; have HE8 := Aside0.mk hE; have HM8 := Aside0.mk (pk_open hM); have HB8 := Aside0.mk ((below_alloc (Below.refl W7.heap.size W7) _).trans (hB.mono (by simp))); clear hM hB hE; dsimp only)
    | (refine wpList_store_row rfl 38 _ _ rfl w8.heap.size _ rfl rfl 38 _ (heap_alloc_new w8 (.cells noCells 38)) HM8.out.1 HM8.out.2.1 HM8.out.2.2.1 ?_))
  obtain ⟨B8, hB⟩ : ∃ B, B = w8.heap.size := ⟨_, rfl⟩
  obtain ⟨W9, hW9⟩ : ∃ W : World, W = (w8.alloc (.cells noCells 38)).setRow w8.heap.size cs8.toArray := ⟨_, rfl⟩
  have hn8 := pk_new w8 cs8
  rw [← hW9] at hn8
  have h79 : Below W7.heap.size W7 W9 := HB8.out.trans (hn8.2.mono HB8.out.size)
  have HBK9 := Aside0.mk ((h79.block _ (blk_lt HBK7.out)).trans HBK7.out)
  have HB9 := Aside0.mk (show Below w.heap.size w W9 from HB7.out.trans (h79.mono HB7.out.size))
  have HE9 := Aside0.mk (ev_below HE8.out hn8.2)
  refine wp_wld (w2 := W9) (by rw [hW9]; rfl) ?_
  rw [← hB]
  clear hB hW9 hn8 HB7 HB8 HG7 HBK7 h79 HE8
  go_wp2_with (go_at_call 30; (refine (told3_any HE9.out (NZ.mk (by decide))).mono ?_); rintro e w10 ⟨rfl, hB⟩; have HB10 := Aside0.mk hB; have b0 : ∀ o, (w10.alloc o).cell? ⟨B, 0, none⟩ = some (.int .i64 12) := (fun o => (blk_cell ((heap_alloc_old w10 o (blk_lt ((hB.block _ (blk_lt HBK9.out)).trans HBK9.out))).trans ((hB.block _ (blk_lt HBK9.out)).trans HBK9.out)) 0).trans HM3.out.2.2.2); clear hB; dsimp only [toldP, Option.getD])
  go_ret
  exact ⟨rfl, (HB9.out.trans (HB10.out.mono HB9.out.size)).alloc (Nat.le_trans HB9.out.size HB10.out.size) _⟩
end Go.Proofs.YthlbcgaegaoanaaGreatDoor.Cr

namespace Go.Proofs.YthlbcgaegaoanaaGreatDoor.Cr
open Go Go.RowKit Go.Proofs.YthlbcgaegaoanaaGreatDoorW.PrintWords Go.Proofs.YthlbcgaegaoanaaGreatDoorW.PrintLast Go.Proofs.YthlbcgaegaoanaaGreatDoorW.PrintMore Go.Proofs.YthlbcgaegaoanaaGreatDoor.Kinds Go.Proofs.YthlbcgaegaoanaaGreatDoor.Utf Go.Proofs.YthlbcgaegaoanaaGreatDoor.Chk Go.Proofs.YthlbcgaegaoanaaGreatDoor.Rdr
set_option linter.unusedVariables false
set_option linter.unusedSimpArgs false
theorem eqFlt (d : Nat) (w : World) (x0 x1 y0 y1 : Int) : (Op.equalIn (d + 2) 70 (.agg #[.int .i64 x0, .int .i64 x1]) (.agg #[.int .i64 y0, .int .i64 y1])).run Tryz.prog w = .ok (x0 == y0 && (x1 == y1)) w := by
  refine eqA_of Tryz.underlying70 (by kernel_rfl) ?_
  refine eqf_cons (by rfl) (by go_simp; rfl) (by go_simp; rfl) (by go_simp) ?_
  exact eqf_last (by rfl) (by go_simp; rfl) (by go_simp; rfl) (by go_simp)
attribute [local go_sem high] eqFlt
theorem wpList_load_midF {P : Program} {ops : Array Oper} {rest : List Oper} {op : Oper} {a : Act} {w : World} {Q : Exit → Act → World → Prop} (hw : Region.wanted op (yielded ops a.tmps) = true) (ty : TypeId) (x : Operand) (ho : op.op = .load ty x)
    (b o : Nat) (hx : a.eval x = .pointer (some ⟨b, o, none⟩)) (cs : List Value) (d : TypeDesc) (hc : w.rangeAt b o cs)
    (hu : P.underlying ty = some d) (hd : d.isRow = true) (hi : (P.info? ty).map (·.size) = some cs.length)
    (h : wpList P ops Q rest (a.put op.dst (.agg cs.toArray)) w) : wpList P ops Q (op :: rest) a w :=
  wpList_step fun _ hK => by
    simp only [hw, if_true]
    exact wp_load_mid ty x ho b o hx cs d hc hu hd hi (hK _ _ h)
theorem need_take {b : List Int} {top : Int} (hb : Bytes b) (hn : (decP b top).need) (k : Nat) : decP (b.take k) top = ⟨noPkt, 0, none⟩ := by
  have hbt : Bytes (b.take k) := fun x hx => hb x (List.mem_of_mem_take hx)
  by_cases h : (decP (b.take k) top).need
  · have hp := decP_pkt (b.take k) top h.1 (fun i => hbt.at_ i)
    cases hd : decP (b.take k) top with
    | mk p n f =>
      rw [hd] at h hp
      obtain ⟨h1, h2⟩ := h
      have h1' : n = 0 := h1
      have h2' : f = none := h2
      have h3' : p = noPkt := hp
      rw [h1', h2', h3']
  · have := decP_app (b.take k) (b.drop k) top (fun i => hbt.at_ i) h
    rw [List.take_append_drop] at this
    rw [this] at hn
    exact absurd hn h
theorem told_zero {f : Option (Int × Int)} (hz : NZ f) : ((toldP f).2 = 0) ↔ f = none := by
  cases f with
  | none => simp [toldP]
  | some q => simp [toldP, hz q rfl]
set_option maxRecDepth 100000 in
set_option maxHeartbeats 4000000 in
theorem firm_any {w : World} (hg : Gl w) (b more : List Int) (cut top : Int) (A D : Option Addr) (n c m cd : Nat) (hn : n = b.length) (hm : m = more.length) (hlc : b.length ≤ c) (hld : more.length ≤ cd) (hr : (Kd.int .u8).C w A b.length b) (hd : (Kd.int .u8).C w D more.length more) (hb : Bytes b) (hbm : Bytes more) :
    Calls Tryz.prog 9 #[.slice A n c, .slice D m cd, .int .i64 cut, .int .i64 top] w fun e w' => e = .returned (.bool true) ∧ Below w.heap.size w w' := by
  subst hn hm
  have HG := Aside0.mk hg
  have HRB := Aside0.mk hr
  have HRM := Aside0.mk hd
  have HBB := Aside0.mk hb
  have HBM := Aside0.mk hbm
  have HCC := Aside0.mk (And.intro hlc hld)
  clear hg hr hd hb hbm hlc hld
  go_enter Tryz.func9, Tryz.ntmps9
  go_upto_region 3 with (go_at_call 24; (with_reducible refine (known3_any HG.out).mono ?_); rintro e w1 ⟨rfl, hB⟩; have HB := Aside0.mk hB; clear hB)
  by_cases hlen : 150000 < b.length
  · have t1 : decide (150000 < (b.length : Int)) = true := decide_eq_true (by omega)
    clear hlen
    go_wp2
    go_ret
    exact ⟨rfl, HB.out⟩
  · have t1 : decide (150000 < (b.length : Int)) = false := decide_eq_false (by omega)
    have HL := Aside0.mk (show b.length ≤ 150000 by omega)
    clear hlen
    by_cases hlen2 : 150000 < more.length
    · have t2 : decide (150000 < (more.length : Int)) = true := decide_eq_true (by omega)
      clear hlen2
      go_wp2
      go_ret
      exact ⟨rfl, HB.out⟩
    · have t2 : decide (150000 < (more.length : Int)) = false := decide_eq_false (by omega)
      have HL2 := Aside0.mk (show more.length ≤ 150000 by omega)
      clear hlen2
      obtain ⟨r, hr⟩ : ∃ r, decP b top = r := ⟨_, rfl⟩
      have HRR := Aside0.mk hr
      have HNZ := Aside0.mk (show NZ r.f by rw [← hr]; exact decP_nz b top)
      have HG1 := Aside0.mk (HG.out.below HB.out HG.out.sz HB.out.size)
      clear hr
      go_upto_region 6 with (first
        | (go_at_call 25; (with_reducible refine (decode_len HG1.out b top A _ c rfl HCC.out.1 (Kd.C_below HRB.out HB.out) HBB.out (Nat.le_trans HL.out (by decide)) r HRR.out).mono ?_); rintro e w3 ⟨cs3, ev3, rfl, hM, hE, hB⟩; have HE3 := Aside0.mk hE; have HM3 := Aside0.mk (And.intro hM (pk_open hM)); have HB3 := Aside0.mk hB; clear hM hB hE; dsimp only)
        | (refine wpList_store_row rfl 38 _ _ rfl w3.heap.size _ rfl rfl 38 _ (heap_alloc_new w3 (.cells noCells 38)) HM3.out.2.1 HM3.out.2.2.1 HM3.out.2.2.2.1 ?_))
      obtain ⟨G, hG⟩ : ∃ G, G = w3.heap.size := ⟨_, rfl⟩
      obtain ⟨W5, hW5⟩ : ∃ W : World, W = (w3.alloc (.cells noCells 38)).setRow w3.heap.size cs3.toArray := ⟨_, rfl⟩
      have hn3 := pk_new w3 cs3
      rw [← hW5] at hn3
      have HBK5 := Aside0.mk (show W5.heap[G]? = some (.cells cs3.toArray 38 (0, 0)) by rw [hG]; exact hn3.1)
      have HB5 := Aside0.mk (show Below w.heap.size w W5 from HB.out.trans ((HB3.out.trans (hn3.2.mono HB3.out.size)).mono HB.out.size))
      have HE5 := Aside0.mk (ev_below HE3.out hn3.2)
      have HM5 := Aside0.mk (Kd.M_below HM3.out.1 hn3.2)
      refine wp_wld (w2 := W5) (by rw [hW5]; rfl) ?_
      rw [← hG]
      clear hG hW5 hn3 HB3 HE3 HM3
      obtain ⟨q1, hq1⟩ : ∃ q, q = (toldP r.f).1 := ⟨_, rfl⟩
      obtain ⟨q2, hq2⟩ : ∃ q, q = (toldP r.f).2 := ⟨_, rfl⟩
      have HQ := Aside0.mk (And.intro hq1 hq2)
      clear hq1 hq2
      go_upto_region 9 with (go_at_call 30; (refine (told3_any HE5.out HNZ.out).mono ?_); rintro e w6 ⟨rfl, hB⟩; rw [← HQ.out.1, ← HQ.out.2]; have HB6 := Aside0.mk hB; clear hB; dsimp only)
      obtain ⟨E, hE⟩ : ∃ E, E = w6.heap.size := ⟨_, rfl⟩
      obtain ⟨W7, hW7⟩ : ∃ W : World, W = w6.alloc (.cells #[.int .i64 q1, .int .i64 q2] 70) := ⟨_, rfl⟩
      have hEK : W7.heap[E]? = some (.cells #[.int .i64 q1, .int .i64 q2] 70 (0, 0)) := by rw [hW7, hE]; exact heap_alloc_new w6 _
      have h57 : Below W5.heap.size W5 W7 := by rw [hW7]; exact HB6.out.alloc HB6.out.size _
      have HEK := Aside0.mk hEK
      have HBK7 := Aside0.mk ((h57.block _ (blk_lt HBK5.out)).trans HBK5.out)
      have HB7 := Aside0.mk (show Below w.heap.size w W7 from HB5.out.trans (h57.mono HB5.out.size))
      have HM7 := Aside0.mk (Kd.M_below HM5.out h57)
      have y1 : W7.cell? ⟨E, 1, none⟩ = some (.int .i64 q2) := blk_cell hEK 1
      refine wp_wld (w2 := W7) (by rw [hW7]) ?_
      rw [← hE]
      have HG7 := Aside0.mk (HG.out.below HB7.out HG.out.sz HB7.out.size)
      clear hE hW7 hEK h57 HB5 HB6 HBK5 HE5 HM5
      by_cases hneed : r.n = 0 ∧ r.f = none
      · have tn : (r.n == 0) = true := by simp [hneed.1]
        have tq : (q2 == 0) = true := by rw [HQ.out.2, hneed.2]; rfl
        have hN := Aside0.mk (show (decP b top).need by rw [HRR.out]; exact hneed)
        have hlt := decP_need b top (fun i => HBB.out.at_ i) hN.out
        have ht0 : 2 ≤ topP top ∧ topP top ≤ 268435455 := by unfold topP; omega
        have ew : wrap64 (topP top + 5) = topP top + 5 := by unfold wrap64; omega
        have tl : decide (topP top + 5 ≤ (b.length : Int)) = false := decide_eq_false (by omega)
        have tl2 : decide ((b.length : Int) ≥ topP top + 5) = false := decide_eq_false (by omega)
        clear hneed hlt ht0
        by_cases c0 : cut < 0
        · have tc : decide (cut < 0) = true := decide_eq_true c0
          clear c0
          go_wp2_with (go_at_call 31; (with_reducible refine (clamp_any top _).mono ?_); rintro e w8 ⟨rfl, rfl⟩)
          go_ret
          exact ⟨rfl, HB7.out⟩
        · have tc : decide (cut < 0) = false := decide_eq_false c0
          by_cases c1 : (b.length : Int) < cut
          · have tc1 : decide ((b.length : Int) < cut) = true := decide_eq_true c1
            have tc2 : decide (cut > (b.length : Int)) = true := decide_eq_true c1
            clear c0 c1
            go_wp2_with (go_at_call 31; (with_reducible refine (clamp_any top _).mono ?_); rintro e w8 ⟨rfl, rfl⟩)
            go_ret
            exact ⟨rfl, HB7.out⟩
          · have tc1 : decide ((b.length : Int) < cut) = false := decide_eq_false c1
            have tc2 : decide (cut > (b.length : Int)) = false := decide_eq_false c1
            obtain ⟨k, hk⟩ : ∃ k : Nat, cut = (k : Int) := ⟨cut.toNat, by omega⟩
            subst hk
            have hkl : k ≤ b.length := by omega
            have cB : (k : Int) ≤ (c : Int) := by have := HCC.out.1; omega
            have cC : (0 : Int) ≤ (k : Int) := by omega
            have htk := Kd.C_take (Kd.C_below HRB.out HB7.out) hkl
            have HTK := Aside0.mk htk
            have HKL := Aside0.mk hkl
            have HTL := Aside0.mk (show k = (b.take k).length by rw [List.length_take]; omega)
            have tcn : decide (b.length < k) = false := decide_eq_false (by omega)
            have HTB := Aside0.mk (show Bytes (b.take k) from fun x hx => HBB.out x (List.mem_of_mem_take hx))
            have HTC := Aside0.mk (show (b.take k).length ≤ c by have := HCC.out.1; rw [List.length_take]; omega)
            have HTD := Aside0.mk (need_take HBB.out hN.out k)
            clear htk hkl c0 c1
            go_wp2_with (first
              | (go_at_call 31; (with_reducible refine (clamp_any top _).mono ?_); rintro e w8 ⟨rfl, rfl⟩)
              | (go_at_call 25; (with_reducible refine (decode_len HG7.out (b.take k) top A _ c HTL.out HTC.out HTK.out HTB.out (by rw [← HTL.out]; have := HKL.out; have := HL.out; omega) _ HTD.out).mono ?_); rintro e w8 ⟨cs8, ev8, rfl, hM, hE, hB⟩; obtain rfl : ev8 = .nilIface := hE; have HM8 := Aside0.mk (pk_open hM); have HB8 := Aside0.mk hB; clear hM hB; dsimp only)
              | (refine wpList_store_row rfl 38 _ _ rfl w8.heap.size _ rfl rfl 38 _ (heap_alloc_new w8 (.cells noCells 38)) HM8.out.1 HM8.out.2.1 HM8.out.2.2.1 ?_))
            go_ret
            exact ⟨rfl, HB7.out.trans ((HB8.out.trans ((pk_new w8 cs8).2.mono HB8.out.size)).mono HB7.out.size)⟩
      · obtain ⟨both, hboth⟩ : ∃ both : Bool, both = ((r.n == 0) && (q2 == 0)) := ⟨_, rfl⟩
        have hbf : ((r.n == 0) && (q2 == 0)) = false := by
          rw [Bool.and_eq_false_iff]
          by_cases h0 : r.n = 0
          · right
            have h2 : q2 ≠ 0 := fun e => hneed ⟨h0, (told_zero HNZ.out).1 (by rw [← HQ.out.2]; exact e)⟩
            simpa using h2
          · left; simpa using h0
        have hdec := decP_app b more top (fun i => HBB.out.at_ i) (by rw [HRR.out]; exact hneed)
        rw [HRR.out] at hdec
        have HDEC := Aside0.mk hdec
        clear hdec hneed hboth
        have HBO := Aside0.mk hbf
        have hcase : (r.n == 0) = false ∨ (r.n == 0) = true ∧ (q2 == 0) = false := by
          cases h0 : (r.n == 0) with
          | false => exact .inl rfl
          | true => right; rw [h0] at hbf; exact ⟨rfl, by simpa using hbf⟩
        clear hbf
        have HLA := Aside0.mk (show b.length + more.length ≤ 1099511627770 by have := HL.out; have := HL2.out; omega)
        rcases hcase with hc | ⟨hc, hc2⟩
        all_goals
          go_upto_region 17 with (first
            | (go_at_call 32; (with_reducible refine (behind_any b more A D _ c _ cd W7 rfl rfl (Kd.C_below HRB.out HB7.out) (Kd.C_below HRM.out HB7.out) (Nat.le_trans HLA.out (by decide))).mono ?_); rintro e w8 ⟨v8, rfl, hR8, hB8⟩; obtain ⟨A8, c8, hv8, hc8, hC8⟩ := Kd.R_reads hR8; subst hv8; have HC8 := Aside0.mk (And.intro hc8 hC8); have HB8 := Aside0.mk hB8; clear hR8 hB8 hc8 hC8)
            | (go_at_call 25; (with_reducible refine (decode_len (HG7.out.below HB8.out HG7.out.sz HB8.out.size) (b ++ more) top A8 (b.length + more.length) c8 (by simp) HC8.out.1 HC8.out.2 (HBB.out.app HBM.out) (by rw [List.length_append]; exact HLA.out) r HDEC.out).mono ?_); rintro e w9 ⟨cs9, ev9, rfl, hM, hE, hB⟩; have HE9 := Aside0.mk hE; have HM9 := Aside0.mk (And.intro hM (pk_open hM)); have HB9 := Aside0.mk hB; clear hM hB hE; dsimp only)
            | (refine wpList_store_row rfl 38 _ _ rfl w9.heap.size _ rfl rfl 38 _ (heap_alloc_new w9 (.cells noCells 38)) HM9.out.2.1 HM9.out.2.2.1 HM9.out.2.2.2.1 ?_))
        all_goals
          obtain ⟨G2, hG2⟩ : ∃ G, G = w9.heap.size := ⟨_, rfl⟩
          obtain ⟨Wa, hWa⟩ : ∃ W : World, W = (w9.alloc (.cells noCells 38)).setRow w9.heap.size cs9.toArray := ⟨_, rfl⟩
          have hn9 := pk_new w9 cs9
          rw [← hWa] at hn9
          have h7a : Below W7.heap.size W7 Wa := HB8.out.trans ((HB9.out.trans (hn9.2.mono HB9.out.size)).mono HB8.out.size)
          have HBKa := Aside0.mk (show Wa.heap[G2]? = some (.cells cs9.toArray 38 (0, 0)) by rw [hG2]; exact hn9.1)
          have HBKb := Aside0.mk ((h7a.block _ (blk_lt HBK7.out)).trans HBK7.out)
          have HEKa := Aside0.mk ((h7a.block _ (blk_lt HEK.out)).trans HEK.out)
          have HEa := Aside0.mk (ev_below HE9.out hn9.2)
          have HMa := Aside0.mk (Kd.M_below HM9.out.1 hn9.2)
          have HMb := Aside0.mk (Kd.M_below HM7.out h7a)
          have HBa := Aside0.mk (HB7.out.trans (h7a.mono HB7.out.size))
          refine wp_wld (w2 := Wa) (by rw [hWa]; rfl) ?_
          rw [← hG2]
          clear hG2 hWa hn9 h7a HB8 HB9 HC8 HE9 HM9 HM7 HBK7 HEK y1
          go_upto_region 18 with (go_at_call 30; (refine (told3_any HEa.out HNZ.out).mono ?_); rintro e wb ⟨rfl, hB⟩; rw [← HQ.out.1, ← HQ.out.2]; have HBb := Aside0.mk hB; clear hB; dsimp only)
          obtain ⟨E2, hE2⟩ : ∃ E, E = wb.heap.size := ⟨_, rfl⟩
          obtain ⟨Wc, hWc⟩ : ∃ W : World, W = wb.alloc (.cells #[.int .i64 q1, .int .i64 q2] 70) := ⟨_, rfl⟩
          have hE2K : Wc.heap[E2]? = some (.cells #[.int .i64 q1, .int .i64 q2] 70 (0, 0)) := by rw [hWc, hE2]; exact heap_alloc_new wb _
          have hac : Below Wa.heap.size Wa Wc := by rw [hWc]; exact HBb.out.alloc HBb.out.size _
          have hE1K := (hac.block _ (blk_lt HEKa.out)).trans HEKa.out
          have HR1 := Aside0.mk (pkt_range ((hac.block _ (blk_lt HBKb.out)).trans HBKb.out))
          have HR2 := Aside0.mk (pkt_range ((hac.block _ (blk_lt HBKa.out)).trans HBKa.out))
          have HK1 := Aside0.mk (kPkt.K_of_M (Kd.M_below HMb.out hac))
          have HK2 := Aside0.mk (kPkt.K_of_M (Kd.M_below HMa.out hac))
          have HZ1 := Aside0.mk (pkt_szL HK1.out)
          have HZ2 := Aside0.mk (pkt_szL HK2.out)
          have u0 : Wc.cell? ⟨E, 0, none⟩ = some (.int .i64 q1) := blk_cell hE1K 0
          have u1 : Wc.cell? ⟨E, 1, none⟩ = some (.int .i64 q2) := blk_cell hE1K 1
          have v0 : Wc.cell? ⟨E2, 0, none⟩ = some (.int .i64 q1) := blk_cell hE2K 0
          have v1 : Wc.cell? ⟨E2, 1, none⟩ = some (.int .i64 q2) := blk_cell hE2K 1
          have HBc := Aside0.mk (HBa.out.trans (hac.mono HBa.out.size))
          refine wp_wld (w2 := Wc) (by rw [hWc]) ?_
          rw [← hE2]
          clear hE2 hWc hE2K hac hE1K HBb
          go_wp2_with (first
            | (refine wpList_load_midF (by rfl) 38 (.tmp 9) rfl G 0 rfl cs3 _ HR1.out Tryz.underlying38 rfl HZ1.out ?_)
            | (refine wpList_load_midF (by rfl) 38 (.tmp 17) rfl G2 0 rfl cs9 _ HR2.out Tryz.underlying38 rfl HZ2.out ?_)
            | (go_at_call 26; (with_reducible refine (same_any r.p cs3 cs9 Wc HK1.out HK2.out).mono ?_); rintro e wd ⟨rfl, hB⟩; have HBd := Aside0.mk hB; clear hB))
          go_ret
          exact ⟨rfl, HBc.out.trans (HBd.out.mono HBc.out.size)⟩
end Go.Proofs.YthlbcgaegaoanaaGreatDoor.Cr

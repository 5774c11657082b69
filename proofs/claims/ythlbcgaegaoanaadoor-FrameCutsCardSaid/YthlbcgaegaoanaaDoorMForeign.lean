/- packet.sameMessage, packet.plainly and bytes.Equal: what each answers, as the kit's tool prints it for this seat. packet's foreign. No statement of the program. -/
import Derived.Test.YthlbcgaegaoanaaDoorProg
import Derived.Below
import Derived.Deep.Draws
import Derived.Deep.AppendLies
import Derived.Maps.AppendAt
import Derived.OwnWalk
import Derived.Laws.BytesArg
import Derived.Laws.MakeOwn
import Derived.Laws.OwnMore
import Derived.Deep.OwnRows
import Derived.Tactics
import Derived.Lib.ConvBytes
import Derived.Laws.Slices
import Derived.WalkKit
import Derived.KernelRfl
import Derived.RowKit3
import Derived.Deep.LoopGhost
import Derived.Deep.QuietTactic
import Derived.BigQuiet
import Derived.WideLaws
import Derived.Deep.DeepCutAuto
import Derived.Deep.CutBlock
import Derived.Deep.RegionHeld3
import Derived.Laws.Rows
import Derived.Lib.AppendStr
import Derived.ArgAppend
import Derived.Laws.IdiomCopy
import Derived.OrdersHeld
import Derived.Laws.BitsLemmas
import Derived.RowKit
import Derived.Test.YthlbcgaegaoanaaDoorMW
import Derived.Test.YthlbcgaegaoanaaDoorMHead
import Derived.Test.YthlbcgaegaoanaaDoorMConn
namespace Go.Proofs.YthlbcgaegaoanaaDoor.PConnPlays
open Go.RowKit Go.Proofs.YthlbcgaegaoanaaDoorW.PrintWords Go.Proofs.YthlbcgaegaoanaaDoorW.PrintLast Go.Proofs.YthlbcgaegaoanaaDoorW.PrintMore
attribute [local go_sem] max2_int min2_int max_two min_two max_three min_three max_four min_four   -- for this text's walks alone
set_option linter.unusedVariables false
set_option linter.unusedSimpArgs false
def errW : Option Int → Value
  | none => .nilIface
  | some c => .iface 0 (.int .i64 c)
theorem errW_none : errW none = .nilIface := rfl
theorem errW_some (c : Int) : errW (some c) = .iface 0 (.int .i64 c) := rfl
theorem eqA129 (d : Nat) (w : World) (x0 y0 : ByteArray) (x1 y1 : Int) (x2 y2 : Bool) :
    (Op.equalIn (d + 2) 129 (.agg #[.string x0, .int .i64 x1, .bool x2]) (.agg #[.string y0, .int .i64 y1, .bool y2])).run Tryd.prog w = .ok (x0.toList == y0.toList && (x1 == y1 && (x2 == y2))) w := by
  refine eqA_of Tryd.underlying129 (by kernel_rfl) ?_
  refine eqf_cons (by rfl) (by go_simp; rfl) (by go_simp; rfl) (by go_simp) ?_
  refine eqf_cons (by rfl) (by go_simp; rfl) (by go_simp; rfl) (by go_simp) ?_
  exact eqf_last (by rfl) (by go_simp; rfl) (by go_simp; rfl) (by go_simp)
attribute [local go_sem high] eqA129
/-! ### packet_plainly: function 66 -/
def packet_plainly.f (a0_0 : ByteArray) (l0_1 : List Int) (a0_2 : Int) (a0_3 : Bool) : Option (ByteArray × Int × Bool) := some (a0_0, a0_2, a0_3)
set_option maxHeartbeats 8000000 in
set_option maxRecDepth 100000 in
theorem packet_plainly.calls (a0_0 : ByteArray) (A0_1 : Option Addr) (c0_1 : Nat) (l0_1 : List Int) (a0_2 : Int) (a0_3 : Bool) (r1 : ByteArray) (r2 : Int) (r3 : Bool) (w : World) (hr0_1 : Kd.C (Kd.int .u8) w A0_1 l0_1.length l0_1) (hc0_1 : l0_1.length ≤ c0_1) (h : packet_plainly.f a0_0 l0_1 a0_2 a0_3 = some (r1, r2, r3)) :
    Calls Tryd.prog 66 #[.agg #[.string a0_0, .slice A0_1 l0_1.length c0_1, .int .i64 a0_2, .bool a0_3]] w fun e w' => e = .returned (.agg #[.string r1, .int .i64 r2, .bool r3]) ∧ Below w.heap.size w w' := by
  have hu39 := Tryd.underlying39
  have hu129 := Tryd.underlying129
  have HR0_1 := Aside0.mk hr0_1
  have HC0_1 := Aside0.mk hc0_1
  clear hr0_1 hc0_1
  have HB := Aside0.mk (Below.refl w.heap.size w)
  have H : (some (a0_0, a0_2, a0_3)) = some (r1, r2, r3) := h
  clear h
  simp only [Option.some.injEq, Prod.mk.injEq] at H
  obtain ⟨rfl, rfl, rfl⟩ := H
  go_enter Tryd.func66, Tryd.ntmps66
  go_wp2_with (first | ((with_reducible refine gate_dst (N := 1) rfl ?_); refine box_event ?hg (N := 1) ?hd (cs := #[.string a0_0, .slice A0_1 l0_1.length c0_1, .int .i64 a0_2, .bool a0_3]) (t := 39) ?hr ?_; (case hd => rfl); (case hg => rfl); (case hr => first | (go_simp; done) | (go_simp; rfl)); intro gb103 hg w2 hbox hb; have n0_ := Aside0.mk (below_step (by repeat (first | (with_reducible first | exact HB.out | apply below_alloc | apply pw_below_drewN | apply below_drew1) | exact HB.out)) hb); have n1_ := Aside0.mk (hbox); have n2_ := Aside0.mk ((by rw [hg]; exact (below_size (by repeat (first | (with_reducible first | exact HB.out | apply below_alloc | apply pw_below_drewN | apply below_drew1) | exact HB.out))) : w.heap.size ≤ gb103)); have n3_ := Aside0.mk ((by rw [hg]; exact (below_size (by repeat (first | (with_reducible first | exact HB.out | apply below_alloc | apply pw_below_drewN | apply below_drew1) | exact HB.out))) : w.heap.size ≤ gb103)); clear HB; have HB := n0_; have BK103 := n1_; have GW103 := n2_; have GE103 := n3_; clear n0_ n1_ n2_ n3_; clear hb hbox hg) | ((with_reducible refine gate_dst (N := 2) rfl ?_); refine box_event ?hg (N := 2) ?hd (cs := #[.string (⟨#[]⟩ : ByteArray), .int .i64 0, .bool false]) (t := 129) ?hr ?_; (case hd => rfl); (case hg => rfl); (case hr => first | (go_simp; done) | (go_simp; rfl)); intro gb104 hg w3 hbox hb; have n0_ := Aside0.mk (blk_below (g := gb103) (o := .cells #[.string a0_0, .slice A0_1 l0_1.length c0_1, .int .i64 a0_2, .bool a0_3] 39 (0, 0)) (by (with_reducible repeat (first | refine blk_drewN ?_ _ | refine blk_drew ?_ | refine blk_alloc ?_ _)); exact BK103.out) hb); have n1_ := Aside0.mk (below_step (by repeat (first | (with_reducible first | exact HB.out | apply below_alloc | apply pw_below_drewN | apply below_drew1 | refine below_set ?_ GE103.out) | exact HB.out)) hb); have n2_ := Aside0.mk (hbox); have n3_ := Aside0.mk ((by rw [hg]; exact (below_size (by repeat (first | (with_reducible first | exact HB.out | apply below_alloc | apply pw_below_drewN | apply below_drew1 | refine below_set ?_ GE103.out) | exact HB.out))) : w.heap.size ≤ gb104)); have n4_ := Aside0.mk ((by rw [hg]; exact (below_size (by repeat (first | (with_reducible first | exact HB.out | apply below_alloc | apply pw_below_drewN | apply below_drew1 | refine below_set ?_ GE103.out) | exact HB.out))) : w.heap.size ≤ gb104)); have n5_ := Aside0.mk ((by rw [hg]; exact Nat.ne_of_lt (blk_lt (g := gb103) (o := .cells #[.string a0_0, .slice A0_1 l0_1.length c0_1, .int .i64 a0_2, .bool a0_3] 39 (0, 0)) (by (with_reducible repeat (first | refine blk_drewN ?_ _ | refine blk_drew ?_ | refine blk_alloc ?_ _)); exact BK103.out)) : gb103 ≠ gb104)); have n6_ := Aside0.mk ((by rw [hg]; exact Nat.ne_of_gt (blk_lt (g := gb103) (o := .cells #[.string a0_0, .slice A0_1 l0_1.length c0_1, .int .i64 a0_2, .bool a0_3] 39 (0, 0)) (by (with_reducible repeat (first | refine blk_drewN ?_ _ | refine blk_drew ?_ | refine blk_alloc ?_ _)); exact BK103.out)) : gb104 ≠ gb103)); clear BK103; clear HB; have BK103 := n0_; have HB := n1_; have BK104 := n2_; have GW104 := n3_; have GE104 := n4_; have NB103_104 := n5_; have NB104_103 := n6_; clear n0_ n1_ n2_ n3_ n4_ n5_ n6_; clear hb hbox hg; have hnb4 := NB103_104.out; have hnc4 := NB104_103.out; have hcz5_0 : w3.cell? ⟨gb103, 0, none⟩ = some (.string a0_0) := (blk_cell BK103.out 0).trans rfl; have hcz5_1 : w3.cell? ⟨gb103, 1, none⟩ = some (.slice A0_1 l0_1.length c0_1) := (blk_cell BK103.out 1).trans rfl; have hcz5_2 : w3.cell? ⟨gb103, 2, none⟩ = some (.int .i64 a0_2) := (blk_cell BK103.out 2).trans rfl; have hcz5_3 : w3.cell? ⟨gb103, 3, none⟩ = some (.bool a0_3) := (blk_cell BK103.out 3).trans rfl; have hfz5_0 := blk_frozen BK103.out 0; have hfz5_1 := blk_frozen BK103.out 1; have hfz5_2 := blk_frozen BK103.out 2; have hfz5_3 := blk_frozen BK103.out 3; have hcz6_0 : w3.cell? ⟨gb104, 0, none⟩ = some (.string (⟨#[]⟩ : ByteArray)) := (blk_cell BK104.out 0).trans rfl; have hcz6_1 : w3.cell? ⟨gb104, 1, none⟩ = some (.int .i64 0) := (blk_cell BK104.out 1).trans rfl; have hcz6_2 : w3.cell? ⟨gb104, 2, none⟩ = some (.bool false) := (blk_cell BK104.out 2).trans rfl; have hfz6_0 := blk_frozen BK104.out 0; have hfz6_1 := blk_frozen BK104.out 1; have hfz6_2 := blk_frozen BK104.out 2))
  refine bodyPost_ret (results_cell_row rfl _ _ gb104 129 #[.string a0_0, .int .i64 a0_2, .bool a0_3] (0, 0) _ rfl (by (with_reducible repeat (first | refine blk_drewN ?_ _ | refine blk_drew ?_ | refine blk_alloc ?_ _)); refine blk_put (cs := #[.string a0_0, .int .i64 a0_2, .bool false]) ?_ 2 _ rfl; (with_reducible repeat (first | refine blk_drewN ?_ _ | refine blk_drew ?_ | refine blk_alloc ?_ _)); refine blk_put (cs := #[.string a0_0, .int .i64 0, .bool false]) ?_ 1 _ rfl; (with_reducible repeat (first | refine blk_drewN ?_ _ | refine blk_drew ?_ | refine blk_alloc ?_ _)); refine blk_put (cs := #[.string (⟨#[]⟩ : ByteArray), .int .i64 0, .bool false]) ?_ 0 _ rfl; (with_reducible repeat (first | refine blk_drewN ?_ _ | refine blk_drew ?_ | refine blk_alloc ?_ _)); exact BK104.out) Tryd.underlying129 rfl (by kernel_rfl)) rfl ?_
  exact ⟨by first | rfl | (simp [errW_none, errW_some] <;> rfl) | (simp [*, errW_none, errW_some] <;> rfl), by repeat (first | (with_reducible first | exact HB.out | apply below_alloc | apply pw_below_drewN | apply below_drew1 | refine below_set ?_ GE103.out | refine below_set ?_ GE104.out) | exact HB.out)⟩
/-! ### bytes_Equal: function 67 -/
def bytes_Equal.f (l0 : List Int) (l1 : List Int) : Option (Bool) := some ((strOfNums l0).toList == (strOfNums l1).toList)
set_option maxHeartbeats 8000000 in
set_option maxRecDepth 100000 in
theorem bytes_Equal.calls (A0 : Option Addr) (c0 : Nat) (l0 : List Int) (A1 : Option Addr) (c1 : Nat) (l1 : List Int) (r : Bool) (w : World) (hr0 : Kd.C (Kd.int .u8) w A0 l0.length l0) (hc0 : l0.length ≤ c0) (hr1 : Kd.C (Kd.int .u8) w A1 l1.length l1) (hc1 : l1.length ≤ c1) (h : bytes_Equal.f l0 l1 = some r) :
    Calls Tryd.prog 67 #[.slice A0 l0.length c0, .slice A1 l1.length c1] w fun e w' => e = .returned (.bool r) ∧ Drawn0 w w' := by
  have HR0 := Aside0.mk hr0
  have HC0 := Aside0.mk hc0
  clear hr0 hc0
  have HR1 := Aside0.mk hr1
  have HC1 := Aside0.mk hc1
  clear hr1 hc1
  have H : (some ((strOfNums l0).toList == (strOfNums l1).toList)) = some r := h
  clear h
  obtain rfl := Option.some.inj H
  have hcv3 := Kd.C_string (P := Tryd.prog) (A := A0) (c := c0) Tryd.underlying22 Tryd.underlying5 Tryd.underlying9 HR0.out
  have hcv4 := Kd.C_string (P := Tryd.prog) (A := A1) (c := c1) Tryd.underlying22 Tryd.underlying5 Tryd.underlying9 HR1.out
  go_enter Tryd.func67, Tryd.ntmps67
  go_wp2
  go_ret
  exact ⟨by first | rfl | (simp; done) | (simp [*]; done), by repeat (first | exact Drawn0.refl _ | apply Drawn0.step)⟩
/-! ### packet_sameMessage: function 55 -/
def packet_sameMessage.f (a0_0 : ByteArray) (l0_1 : List Int) (a0_2 : Int) (a0_3 : Bool) (a1_0 : ByteArray) (l1_1 : List Int) (a1_2 : Int) (a1_3 : Bool) : Option (Bool) := (packet_plainly.f a0_0 l0_1 a0_2 a0_3).bind fun bt107 => ((packet_plainly.f a1_0 l1_1 a1_2 a1_3).bind fun bt110 => (if (bt107.1.toList == bt110.1.toList && (bt107.2.1 == bt110.2.1 && (bt107.2.2 == bt110.2.2))) = true then ((bytes_Equal.f l0_1 l1_1).bind fun t113 => (some t113)) else (some false)))
def packet_sameMessage.T1 : Bool × List (List Nat × List Nat) := (true, [([], []), ([0], [0]), ([], []), ([2, 1], [2]), ([1, 3], [1, 3]), ([4, 3], [4]), ([5], [5]), ([6, 5], [5, 6]), ([5], [5]), ([8, 5], [5, 8]), ([7, 9, 5, 5], [5, 7, 9]), ([5, 10], [5, 10]), ([11, 10, 0, 1, 2, 3, 4, 5, 6, 7, 8, 9, 10, 11], [11])])
def packet_sameMessage.B1 : List Nat := [0, 1, 0, 7, 15, 31, 63, 127, 63, 319, 1023, 2047, 4095]
theorem packet_sameMessage.tab1 : rtab .any (opsOf Tryd.f55 1) = packet_sameMessage.T1 := by kernel_rfl
theorem packet_sameMessage.bits1 : waitsOk packet_sameMessage.T1.2 packet_sameMessage.B1 = true := by kernel_rfl
set_option maxHeartbeats 8000000 in
set_option maxRecDepth 100000 in
theorem packet_sameMessage.calls (a0_0 : ByteArray) (A0_1 : Option Addr) (c0_1 : Nat) (l0_1 : List Int) (a0_2 : Int) (a0_3 : Bool) (a1_0 : ByteArray) (A1_1 : Option Addr) (c1_1 : Nat) (l1_1 : List Int) (a1_2 : Int) (a1_3 : Bool) (r : Bool) (w : World) (hr0_1 : Kd.C (Kd.int .u8) w A0_1 l0_1.length l0_1) (hc0_1 : l0_1.length ≤ c0_1) (hr1_1 : Kd.C (Kd.int .u8) w A1_1 l1_1.length l1_1) (hc1_1 : l1_1.length ≤ c1_1) (h : packet_sameMessage.f a0_0 l0_1 a0_2 a0_3 a1_0 l1_1 a1_2 a1_3 = some r) :
    Calls Tryd.prog 55 #[.agg #[.string a0_0, .slice A0_1 l0_1.length c0_1, .int .i64 a0_2, .bool a0_3], .agg #[.string a1_0, .slice A1_1 l1_1.length c1_1, .int .i64 a1_2, .bool a1_3]] w fun e w' => e = .returned (.bool r) ∧ Below w.heap.size w w' := by
  have hu39 := Tryd.underlying39
  have HR0_1 := Aside0.mk hr0_1
  have HC0_1 := Aside0.mk hc0_1
  clear hr0_1 hc0_1
  have HR1_1 := Aside0.mk hr1_1
  have HC1_1 := Aside0.mk hc1_1
  clear hr1_1 hc1_1
  have HB := Aside0.mk (Below.refl w.heap.size w)
  have H : ((packet_plainly.f a0_0 l0_1 a0_2 a0_3).bind fun bt107 => ((packet_plainly.f a1_0 l1_1 a1_2 a1_3).bind fun bt110 => (if (bt107.1.toList == bt110.1.toList && (bt107.2.1 == bt110.2.1 && (bt107.2.2 == bt110.2.2))) = true then ((bytes_Equal.f l0_1 l1_1).bind fun t113 => (some t113)) else (some false)))) = some r := h
  clear h
  replace H := Option.bind_eq_some_iff.mp H
  obtain ⟨⟨t107, t108, t109⟩, A30, H⟩ := H
  replace H : ((packet_plainly.f a1_0 l1_1 a1_2 a1_3).bind fun bt110 => (if (t107.toList == bt110.1.toList && (t108 == bt110.2.1 && (t109 == bt110.2.2))) = true then ((bytes_Equal.f l0_1 l1_1).bind fun t113 => (some t113)) else (some false))) = some r := H
  have A3 := Aside0.mk A30
  clear A30
  replace H := Option.bind_eq_some_iff.mp H
  obtain ⟨⟨t110, t111, t112⟩, A40, H⟩ := H
  replace H : (if (t107.toList == t110.toList && (t108 == t111 && (t109 == t112))) = true then ((bytes_Equal.f l0_1 l1_1).bind fun t113 => (some t113)) else (some false)) = some r := H
  have A4 := Aside0.mk A40
  clear A40
  by_cases c5 : (t107.toList == t110.toList && (t108 == t111 && (t109 == t112))) = true
  · rw [if_pos c5] at H
    have c5b0 : (t107.toList == t110.toList && (t108 == t111 && (t109 == t112))) = true := c5
    (try (have c5b1 : decide (t107.toList = t110.toList && (t108 == t111 && (t109 == t112))) = true := by simpa using c5))
    (try (have c5b2 : (t107.toList == t110.toList && (t108 == t111 && (t109 == t112))) = true := by simpa using c5))
    clear c5
    replace H := Option.bind_eq_some_iff.mp H
    obtain ⟨t113, A60, H⟩ := H
    replace H : (some t113) = some r := H
    have A6 := Aside0.mk A60
    clear A60
    obtain rfl := Option.some.inj H
    go_enter Tryd.func55, Tryd.ntmps55
    try go_wp2_with (first | ((with_reducible refine gate_dst (N := 2) rfl ?_); refine box_event ?hg (N := 2) ?hd (cs := #[.string a0_0, .slice A0_1 l0_1.length c0_1, .int .i64 a0_2, .bool a0_3]) (t := 39) ?hr ?_; (case hd => rfl); (case hg => rfl); (case hr => first | (go_simp; done) | (go_simp; rfl)); intro gb105 hg w7 hbox hb; have n0_ := Aside0.mk (below_step (by repeat (first | (with_reducible first | exact HB.out | apply below_alloc | apply pw_below_drewN | apply below_drew1) | exact HB.out)) hb); have n1_ := Aside0.mk (hbox); have n2_ := Aside0.mk ((by rw [hg]; exact (below_size (by repeat (first | (with_reducible first | exact HB.out | apply below_alloc | apply pw_below_drewN | apply below_drew1) | exact HB.out))) : w.heap.size ≤ gb105)); have n3_ := Aside0.mk ((by rw [hg]; exact (below_size (by repeat (first | (with_reducible first | exact HB.out | apply below_alloc | apply pw_below_drewN | apply below_drew1) | exact HB.out))) : w.heap.size ≤ gb105)); clear HB; have HB := n0_; have BK105 := n1_; have GW105 := n2_; have GE105 := n3_; clear n0_ n1_ n2_ n3_; clear hb hbox hg) | ((with_reducible refine gate_dst (N := 3) rfl ?_); refine box_event ?hg (N := 3) ?hd (cs := #[.string a1_0, .slice A1_1 l1_1.length c1_1, .int .i64 a1_2, .bool a1_3]) (t := 39) ?hr ?_; (case hd => rfl); (case hg => rfl); (case hr => first | (go_simp; done) | (go_simp; rfl)); intro gb106 hg w8 hbox hb; have n0_ := Aside0.mk (blk_below (g := gb105) (o := .cells #[.string a0_0, .slice A0_1 l0_1.length c0_1, .int .i64 a0_2, .bool a0_3] 39 (0, 0)) (by (with_reducible repeat (first | refine blk_drewN ?_ _ | refine blk_drew ?_ | refine blk_alloc ?_ _)); exact BK105.out) hb); have n1_ := Aside0.mk (below_step (by repeat (first | (with_reducible first | exact HB.out | apply below_alloc | apply pw_below_drewN | apply below_drew1 | refine below_set ?_ GE105.out) | exact HB.out)) hb); have n2_ := Aside0.mk (hbox); have n3_ := Aside0.mk ((by rw [hg]; exact (below_size (by repeat (first | (with_reducible first | exact HB.out | apply below_alloc | apply pw_below_drewN | apply below_drew1 | refine below_set ?_ GE105.out) | exact HB.out))) : w.heap.size ≤ gb106)); have n4_ := Aside0.mk ((by rw [hg]; exact (below_size (by repeat (first | (with_reducible first | exact HB.out | apply below_alloc | apply pw_below_drewN | apply below_drew1 | refine below_set ?_ GE105.out) | exact HB.out))) : w.heap.size ≤ gb106)); have n5_ := Aside0.mk ((by rw [hg]; exact Nat.ne_of_lt (blk_lt (g := gb105) (o := .cells #[.string a0_0, .slice A0_1 l0_1.length c0_1, .int .i64 a0_2, .bool a0_3] 39 (0, 0)) (by (with_reducible repeat (first | refine blk_drewN ?_ _ | refine blk_drew ?_ | refine blk_alloc ?_ _)); exact BK105.out)) : gb105 ≠ gb106)); have n6_ := Aside0.mk ((by rw [hg]; exact Nat.ne_of_gt (blk_lt (g := gb105) (o := .cells #[.string a0_0, .slice A0_1 l0_1.length c0_1, .int .i64 a0_2, .bool a0_3] 39 (0, 0)) (by (with_reducible repeat (first | refine blk_drewN ?_ _ | refine blk_drew ?_ | refine blk_alloc ?_ _)); exact BK105.out)) : gb106 ≠ gb105)); clear BK105; clear HB; have BK105 := n0_; have HB := n1_; have BK106 := n2_; have GW106 := n3_; have GE106 := n4_; have NB105_106 := n5_; have NB106_105 := n6_; clear n0_ n1_ n2_ n3_ n4_ n5_ n6_; clear hb hbox hg))
    have n0_ := Aside0.mk (blk_drew BK105.out)
    have n1_ := Aside0.mk (blk_drew BK106.out)
    have n2_ := Aside0.mk (below_drew1 HB.out)
    clear BK105
    clear BK106
    clear HB
    have BK105 := n0_
    have BK106 := n1_
    have HB := n2_
    clear n0_ n1_ n2_
    refine start_ (n := 13) (S := fun w' => w'.cell? ⟨gb105, 0, none⟩ = some (.string a0_0) ∧ w'.cell? ⟨gb105, 1, none⟩ = some (.slice A0_1 l0_1.length c0_1) ∧ w'.cell? ⟨gb105, 2, none⟩ = some (.int .i64 a0_2) ∧ w'.cell? ⟨gb105, 3, none⟩ = some (.bool a0_3) ∧ w'.cell? ⟨gb106, 0, none⟩ = some (.string a1_0) ∧ w'.cell? ⟨gb106, 1, none⟩ = some (.slice A1_1 l1_1.length c1_1) ∧ w'.cell? ⟨gb106, 2, none⟩ = some (.int .i64 a1_2) ∧ w'.cell? ⟨gb106, 3, none⟩ = some (.bool a1_3)) (ds := []) #[false, false, false, false, false, false, false, false, false, false, false, false, false] (by kernel_rfl) rfl rfl ⟨(blk_cell BK105.out 0).trans rfl, (blk_cell BK105.out 1).trans rfl, (blk_cell BK105.out 2).trans rfl, (blk_cell BK105.out 3).trans rfl, (blk_cell BK106.out 0).trans rfl, (blk_cell BK106.out 1).trans rfl, (blk_cell BK106.out 2).trans rfl, (blk_cell BK106.out 3).trans rfl⟩ (fun hHeld => ?_); refine with_tabW packet_sameMessage.tab1 packet_sameMessage.bits1 (fun HT_ HW_ => ?_)
    generalize w8.drew = w9 at BK105 BK106 HB hHeld ⊢
    refine take_ (i := 0) (N := some 5) (v := ?_) (a' := ?_) #[true, false, false, false, false, false, false, false, false, false, false, false, false] rfl rfl (take_ofW HT_.out HW_.out (by kernel_rfl)) (fun _ _ _ h => h) (Or.inl ⟨by rfl, ?_⟩) hHeld ?_ ?_
    rotate_left
    · rintro w' ⟨s0, s1, s2, s3, s4, s5, s6, s7⟩
      go_simp
      with_reducible rfl
    rotate_left
    · simp only [Act.put, List.setIfInBounds_toArray, List.set_cons_zero, List.set_cons_succ, i64_w, i32_w]
      rfl
    refine take_ (i := 2) (N := some 7) (v := ?_) (a' := ?_) #[true, false, true, false, false, false, false, false, false, false, false, false, false] rfl rfl (take_ofW HT_.out HW_.out (by kernel_rfl)) (fun _ _ _ h => h) (Or.inl ⟨by rfl, ?_⟩) hHeld ?_ ?_
    rotate_left
    · rintro w' ⟨s0, s1, s2, s3, s4, s5, s6, s7⟩
      go_simp
      with_reducible rfl
    rotate_left
    · simp only [Act.put, List.setIfInBounds_toArray, List.set_cons_zero, List.set_cons_succ, i64_w, i32_w]
      rfl
    refine one_ (i := 1) (N := some 6) #[true, true, true, false, false, false, false, false, false, false, false, false, false] rfl rfl (one_of HT_.out (by kernel_rfl)) (by decide) (fun K hK => ?_)
    refine goes_ Tryd.func66 (by kernel_rfl) rfl #[.agg #[.string a0_0, .slice A0_1 l0_1.length c0_1, .int .i64 a0_2, .bool a0_3]] (by rfl) rfl rfl (by (try simp only [List.map_toArray, List.map_cons, List.map_nil]); first | done | rfl | (simp only [List.length_drop, List.length_take]; rfl)) ?_
    with_reducible refine (packet_plainly.calls a0_0 _ _ l0_1 a0_2 a0_3 t107 t108 t109 _ ?side1 ?side2 A3.out).mono ?_
    (case side1 => repeat (first | exact (Kd.C_below HR0_1.out HB.out) | (with_reducible refine Kd.C_alloc ?_ _) | (with_reducible refine Kd.C_drewN ?_ _) | (with_reducible refine Kd.C_drew ?_)))
    (case side2 => exact HC0_1.out)
    rintro e w10 ⟨rfl, hb⟩
    refine ⟨_, rfl, ?_⟩
    have n0_ := Aside0.mk (blk_below (g := gb105) (o := .cells #[.string a0_0, .slice A0_1 l0_1.length c0_1, .int .i64 a0_2, .bool a0_3] 39 (0, 0)) (by (with_reducible repeat (first | refine blk_drewN ?_ _ | refine blk_drew ?_ | refine blk_alloc ?_ _)); exact BK105.out) hb)
    have n1_ := Aside0.mk (blk_below (g := gb106) (o := .cells #[.string a1_0, .slice A1_1 l1_1.length c1_1, .int .i64 a1_2, .bool a1_3] 39 (0, 0)) (by (with_reducible repeat (first | refine blk_drewN ?_ _ | refine blk_drew ?_ | refine blk_alloc ?_ _)); exact BK106.out) hb)
    have n2_ := Aside0.mk (below_step (by repeat (first | (with_reducible first | exact HB.out | apply below_alloc | apply pw_below_drewN | apply below_drew1 | refine below_set ?_ GE105.out | refine below_set ?_ GE106.out) | exact HB.out)) hb)
    clear BK105
    clear BK106
    clear HB
    have BK105 := n0_
    have BK106 := n1_
    have HB := n2_
    clear n0_ n1_ n2_
    (try clear hb)
    (try clear hb2)
    (try clear hk)
    (try clear hi)
    refine hK.out _ _ ⟨(blk_cell BK105.out 0).trans rfl, (blk_cell BK105.out 1).trans rfl, (blk_cell BK105.out 2).trans rfl, (blk_cell BK105.out 3).trans rfl, (blk_cell BK106.out 0).trans rfl, (blk_cell BK106.out 1).trans rfl, (blk_cell BK106.out 2).trans rfl, (blk_cell BK106.out 3).trans rfl⟩ (fun hHeld => ?_)
    clear hK K
    refine norm_ (a' := ?_) ?_ ?_
    rotate_left
    · show Act.put _ (some 6) _ = _
      simp only [Act.put, List.setIfInBounds_toArray, List.set_cons_zero, List.set_cons_succ, i64_w, i32_w]
      rfl
    refine one_ (i := 3) (N := some 8) #[true, true, true, true, false, false, false, false, false, false, false, false, false] rfl rfl (one_of HT_.out (by kernel_rfl)) (by decide) (fun K hK => ?_)
    refine goes_ Tryd.func66 (by kernel_rfl) rfl #[.agg #[.string a1_0, .slice A1_1 l1_1.length c1_1, .int .i64 a1_2, .bool a1_3]] (by rfl) rfl rfl (by (try simp only [List.map_toArray, List.map_cons, List.map_nil]); first | done | rfl | (simp only [List.length_drop, List.length_take]; rfl)) ?_
    with_reducible refine (packet_plainly.calls a1_0 _ _ l1_1 a1_2 a1_3 t110 t111 t112 _ ?side1 ?side2 A4.out).mono ?_
    (case side1 => repeat (first | exact (Kd.C_below HR1_1.out HB.out) | (with_reducible refine Kd.C_alloc ?_ _) | (with_reducible refine Kd.C_drewN ?_ _) | (with_reducible refine Kd.C_drew ?_)))
    (case side2 => exact HC1_1.out)
    rintro e w11 ⟨rfl, hb⟩
    refine ⟨_, rfl, ?_⟩
    have n0_ := Aside0.mk (blk_below (g := gb105) (o := .cells #[.string a0_0, .slice A0_1 l0_1.length c0_1, .int .i64 a0_2, .bool a0_3] 39 (0, 0)) (by (with_reducible repeat (first | refine blk_drewN ?_ _ | refine blk_drew ?_ | refine blk_alloc ?_ _)); exact BK105.out) hb)
    have n1_ := Aside0.mk (blk_below (g := gb106) (o := .cells #[.string a1_0, .slice A1_1 l1_1.length c1_1, .int .i64 a1_2, .bool a1_3] 39 (0, 0)) (by (with_reducible repeat (first | refine blk_drewN ?_ _ | refine blk_drew ?_ | refine blk_alloc ?_ _)); exact BK106.out) hb)
    have n2_ := Aside0.mk (below_step (by repeat (first | (with_reducible first | exact HB.out | apply below_alloc | apply pw_below_drewN | apply below_drew1 | refine below_set ?_ GE105.out | refine below_set ?_ GE106.out) | exact HB.out)) hb)
    clear BK105
    clear BK106
    clear HB
    have BK105 := n0_
    have BK106 := n1_
    have HB := n2_
    clear n0_ n1_ n2_
    (try clear hb)
    (try clear hb2)
    (try clear hk)
    (try clear hi)
    refine hK.out _ _ ⟨(blk_cell BK105.out 0).trans rfl, (blk_cell BK105.out 1).trans rfl, (blk_cell BK105.out 2).trans rfl, (blk_cell BK105.out 3).trans rfl, (blk_cell BK106.out 0).trans rfl, (blk_cell BK106.out 1).trans rfl, (blk_cell BK106.out 2).trans rfl, (blk_cell BK106.out 3).trans rfl⟩ (fun hHeld => ?_)
    clear hK K
    refine norm_ (a' := ?_) ?_ ?_
    rotate_left
    · show Act.put _ (some 8) _ = _
      simp only [Act.put, List.setIfInBounds_toArray, List.set_cons_zero, List.set_cons_succ, i64_w, i32_w]
      rfl
    refine pure_ (i := 4) (N := some 9) (v := ?_) (a' := ?_) #[true, true, true, true, true, false, false, false, false, false, false, false, false] rfl rfl (any_of HT_.out (by kernel_rfl)) (fun _ _ _ h => h) (Or.inl ⟨by rfl, ?_⟩) ?_ ?_
    rotate_left
    · intro w'
      go_simp
      with_reducible rfl
    rotate_left
    · simp only [Act.put, List.setIfInBounds_toArray, List.set_cons_zero, List.set_cons_succ, i64_w, i32_w]
      rfl
    refine pure_ (i := 5) (N := some 10) (v := ?_) (a' := ?_) #[true, true, true, true, true, true, false, false, false, false, false, false, false] rfl rfl (any_of HT_.out (by kernel_rfl)) (fun _ _ _ h => h) (Or.inl ⟨by rfl, ?_⟩) ?_ ?_
    rotate_left
    · intro w'
      go_simp
      with_reducible rfl
    rotate_left
    · simp only [Act.put, List.setIfInBounds_toArray, List.set_cons_zero, List.set_cons_succ, i64_w, i32_w]
      rfl
    refine pure_ (i := 6) (N := some 11) (v := ?_) (a' := ?_) #[true, true, true, true, true, true, true, false, false, false, false, false, false] rfl rfl (any_of HT_.out (by kernel_rfl)) (fun _ _ _ h => h) (Or.inl ⟨by rfl, ?_⟩) ?_ ?_
    rotate_left
    · intro w'
      go_simp
      with_reducible rfl
    rotate_left
    · simp only [Act.put, List.setIfInBounds_toArray, List.set_cons_zero, List.set_cons_succ, i64_w, i32_w]
      rfl
    refine pure_ (i := 8) (N := some 13) (v := ?_) (a' := ?_) #[true, true, true, true, true, true, true, false, true, false, false, false, false] rfl rfl (any_of HT_.out (by kernel_rfl)) (fun _ _ _ h => h) (Or.inl ⟨by rfl, ?_⟩) ?_ ?_
    rotate_left
    · intro w'
      go_simp
      with_reducible rfl
    rotate_left
    · simp only [Act.put, List.setIfInBounds_toArray, List.set_cons_zero, List.set_cons_succ, i64_w, i32_w]
      rfl
    refine take_ (i := 7) (N := some 12) (v := ?_) (a' := ?_) #[true, true, true, true, true, true, true, true, true, false, false, false, false] rfl rfl (take_ofW HT_.out HW_.out (by kernel_rfl)) (fun _ _ _ h => h) (Or.inl ⟨by rfl, ?_⟩) hHeld ?_ ?_
    rotate_left
    · rintro w' ⟨s0, s1, s2, s3, s4, s5, s6, s7⟩
      go_simp
      with_reducible rfl
    rotate_left
    · simp only [Act.put, List.setIfInBounds_toArray, List.set_cons_zero, List.set_cons_succ, i64_w, i32_w]
      rfl
    refine take_ (i := 9) (N := some 14) (v := ?_) (a' := ?_) #[true, true, true, true, true, true, true, true, true, true, false, false, false] rfl rfl (take_ofW HT_.out HW_.out (by kernel_rfl)) (fun _ _ _ h => h) (Or.inl ⟨by rfl, ?_⟩) hHeld ?_ ?_
    rotate_left
    · rintro w' ⟨s0, s1, s2, s3, s4, s5, s6, s7⟩
      go_simp
      with_reducible rfl
    rotate_left
    · simp only [Act.put, List.setIfInBounds_toArray, List.set_cons_zero, List.set_cons_succ, i64_w, i32_w]
      rfl
    refine one_ (i := 10) (N := some 15) #[true, true, true, true, true, true, true, true, true, true, true, false, false] rfl rfl (one_of HT_.out (by kernel_rfl)) (by decide) (fun K hK => ?_)
    refine goes_ Tryd.func67 (by kernel_rfl) rfl #[.slice A0_1 l0_1.length c0_1, .slice A1_1 l1_1.length c1_1] (by rfl) rfl rfl (by (try simp only [List.map_toArray, List.map_cons, List.map_nil]); first | done | rfl | (simp only [List.length_drop, List.length_take]; rfl)) ?_
    with_reducible refine (bytes_Equal.calls _ _ l0_1 _ _ l1_1 t113 _ ?side1 ?side2 ?side3 ?side4 A6.out).mono ?_
    (case side1 => repeat (first | exact (Kd.C_below HR0_1.out HB.out) | (with_reducible refine Kd.C_alloc ?_ _) | (with_reducible refine Kd.C_drewN ?_ _) | (with_reducible refine Kd.C_drew ?_)))
    (case side2 => exact HC0_1.out)
    (case side3 => repeat (first | exact (Kd.C_below HR1_1.out HB.out) | (with_reducible refine Kd.C_alloc ?_ _) | (with_reducible refine Kd.C_drewN ?_ _) | (with_reducible refine Kd.C_drew ?_)))
    (case side4 => exact HC1_1.out)
    rintro e w' ⟨rfl, ⟨nd, rfl⟩⟩
    refine ⟨_, rfl, ?_⟩
    refine hK.out _ _ ⟨(blk_cell BK105.out 0).trans rfl, (blk_cell BK105.out 1).trans rfl, (blk_cell BK105.out 2).trans rfl, (blk_cell BK105.out 3).trans rfl, (blk_cell BK106.out 0).trans rfl, (blk_cell BK106.out 1).trans rfl, (blk_cell BK106.out 2).trans rfl, (blk_cell BK106.out 3).trans rfl⟩ (fun hHeld => ?_)
    clear hK K
    refine norm_ (a' := ?_) ?_ ?_
    rotate_left
    · show Act.put _ (some 15) _ = _
      simp only [Act.put, List.setIfInBounds_toArray, List.set_cons_zero, List.set_cons_succ, i64_w, i32_w]
      rfl
    refine pure_ (i := 11) (N := some 16) (v := ?_) (a' := ?_) #[true, true, true, true, true, true, true, true, true, true, true, true, false] rfl rfl (any_of HT_.out (by kernel_rfl)) (fun _ _ _ h => h) (Or.inl ⟨by rfl, ?_⟩) ?_ ?_
    rotate_left
    · intro w'
      go_simp
      with_reducible rfl
    rotate_left
    · simp only [Act.put, List.setIfInBounds_toArray, List.set_cons_zero, List.set_cons_succ, i64_w, i32_w]
      rfl
    refine pure_ (i := 12) (N := some 4) (v := ?_) (a' := ?_) #[true, true, true, true, true, true, true, true, true, true, true, true, true] rfl rfl (any_of HT_.out (by kernel_rfl)) (fun _ _ _ h => h) (Or.inl ⟨by rfl, ?_⟩) ?_ ?_
    rotate_left
    · intro w'
      go_simp
      with_reducible rfl
    rotate_left
    · simp only [Act.put, List.setIfInBounds_toArray, List.set_cons_zero, List.set_cons_succ, i64_w, i32_w]
      rfl
    refine done_ (done_of HT_.out (by kernel_rfl)) ?_
    try go_wp2
    go_ret
    exact ⟨by first | rfl | (simp [errW_none, errW_some] <;> rfl) | (simp [*, errW_none, errW_some] <;> rfl), by repeat (first | (with_reducible first | exact HB.out | apply below_alloc | apply pw_below_drewN | apply below_drew1 | refine below_set ?_ GE105.out | refine below_set ?_ GE106.out) | exact HB.out)⟩
  · rw [if_neg c5] at H
    have c5b0 : (t107.toList == t110.toList && (t108 == t111 && (t109 == t112))) = false := by simpa using c5
    (try (have c5b1 : decide (t107.toList = t110.toList && (t108 == t111 && (t109 == t112))) = false := by simpa using c5))
    (try (have c5b2 : (t107.toList == t110.toList && (t108 == t111 && (t109 == t112))) = false := by simpa using c5))
    (try (have c5b3 : ¬ (t107.toList = t110.toList && (t108 == t111 && (t109 == t112))) := by simpa using c5))
    clear c5
    obtain rfl := Option.some.inj H
    go_enter Tryd.func55, Tryd.ntmps55
    try go_wp2_with (first | ((with_reducible refine gate_dst (N := 2) rfl ?_); refine box_event ?hg (N := 2) ?hd (cs := #[.string a0_0, .slice A0_1 l0_1.length c0_1, .int .i64 a0_2, .bool a0_3]) (t := 39) ?hr ?_; (case hd => rfl); (case hg => rfl); (case hr => first | (go_simp; done) | (go_simp; rfl)); intro gb105 hg w12 hbox hb; have n0_ := Aside0.mk (below_step (by repeat (first | (with_reducible first | exact HB.out | apply below_alloc | apply pw_below_drewN | apply below_drew1) | exact HB.out)) hb); have n1_ := Aside0.mk (hbox); have n2_ := Aside0.mk ((by rw [hg]; exact (below_size (by repeat (first | (with_reducible first | exact HB.out | apply below_alloc | apply pw_below_drewN | apply below_drew1) | exact HB.out))) : w.heap.size ≤ gb105)); have n3_ := Aside0.mk ((by rw [hg]; exact (below_size (by repeat (first | (with_reducible first | exact HB.out | apply below_alloc | apply pw_below_drewN | apply below_drew1) | exact HB.out))) : w.heap.size ≤ gb105)); clear HB; have HB := n0_; have BK105 := n1_; have GW105 := n2_; have GE105 := n3_; clear n0_ n1_ n2_ n3_; clear hb hbox hg) | ((with_reducible refine gate_dst (N := 3) rfl ?_); refine box_event ?hg (N := 3) ?hd (cs := #[.string a1_0, .slice A1_1 l1_1.length c1_1, .int .i64 a1_2, .bool a1_3]) (t := 39) ?hr ?_; (case hd => rfl); (case hg => rfl); (case hr => first | (go_simp; done) | (go_simp; rfl)); intro gb106 hg w13 hbox hb; have n0_ := Aside0.mk (blk_below (g := gb105) (o := .cells #[.string a0_0, .slice A0_1 l0_1.length c0_1, .int .i64 a0_2, .bool a0_3] 39 (0, 0)) (by (with_reducible repeat (first | refine blk_drewN ?_ _ | refine blk_drew ?_ | refine blk_alloc ?_ _)); exact BK105.out) hb); have n1_ := Aside0.mk (below_step (by repeat (first | (with_reducible first | exact HB.out | apply below_alloc | apply pw_below_drewN | apply below_drew1 | refine below_set ?_ GE105.out) | exact HB.out)) hb); have n2_ := Aside0.mk (hbox); have n3_ := Aside0.mk ((by rw [hg]; exact (below_size (by repeat (first | (with_reducible first | exact HB.out | apply below_alloc | apply pw_below_drewN | apply below_drew1 | refine below_set ?_ GE105.out) | exact HB.out))) : w.heap.size ≤ gb106)); have n4_ := Aside0.mk ((by rw [hg]; exact (below_size (by repeat (first | (with_reducible first | exact HB.out | apply below_alloc | apply pw_below_drewN | apply below_drew1 | refine below_set ?_ GE105.out) | exact HB.out))) : w.heap.size ≤ gb106)); have n5_ := Aside0.mk ((by rw [hg]; exact Nat.ne_of_lt (blk_lt (g := gb105) (o := .cells #[.string a0_0, .slice A0_1 l0_1.length c0_1, .int .i64 a0_2, .bool a0_3] 39 (0, 0)) (by (with_reducible repeat (first | refine blk_drewN ?_ _ | refine blk_drew ?_ | refine blk_alloc ?_ _)); exact BK105.out)) : gb105 ≠ gb106)); have n6_ := Aside0.mk ((by rw [hg]; exact Nat.ne_of_gt (blk_lt (g := gb105) (o := .cells #[.string a0_0, .slice A0_1 l0_1.length c0_1, .int .i64 a0_2, .bool a0_3] 39 (0, 0)) (by (with_reducible repeat (first | refine blk_drewN ?_ _ | refine blk_drew ?_ | refine blk_alloc ?_ _)); exact BK105.out)) : gb106 ≠ gb105)); clear BK105; clear HB; have BK105 := n0_; have HB := n1_; have BK106 := n2_; have GW106 := n3_; have GE106 := n4_; have NB105_106 := n5_; have NB106_105 := n6_; clear n0_ n1_ n2_ n3_ n4_ n5_ n6_; clear hb hbox hg))
    have n0_ := Aside0.mk (blk_drew BK105.out)
    have n1_ := Aside0.mk (blk_drew BK106.out)
    have n2_ := Aside0.mk (below_drew1 HB.out)
    clear BK105
    clear BK106
    clear HB
    have BK105 := n0_
    have BK106 := n1_
    have HB := n2_
    clear n0_ n1_ n2_
    refine start_ (n := 13) (S := fun w' => w'.cell? ⟨gb105, 0, none⟩ = some (.string a0_0) ∧ w'.cell? ⟨gb105, 1, none⟩ = some (.slice A0_1 l0_1.length c0_1) ∧ w'.cell? ⟨gb105, 2, none⟩ = some (.int .i64 a0_2) ∧ w'.cell? ⟨gb105, 3, none⟩ = some (.bool a0_3) ∧ w'.cell? ⟨gb106, 0, none⟩ = some (.string a1_0) ∧ w'.cell? ⟨gb106, 1, none⟩ = some (.slice A1_1 l1_1.length c1_1) ∧ w'.cell? ⟨gb106, 2, none⟩ = some (.int .i64 a1_2) ∧ w'.cell? ⟨gb106, 3, none⟩ = some (.bool a1_3)) (ds := []) #[false, false, false, false, false, false, false, false, false, false, false, false, false] (by kernel_rfl) rfl rfl ⟨(blk_cell BK105.out 0).trans rfl, (blk_cell BK105.out 1).trans rfl, (blk_cell BK105.out 2).trans rfl, (blk_cell BK105.out 3).trans rfl, (blk_cell BK106.out 0).trans rfl, (blk_cell BK106.out 1).trans rfl, (blk_cell BK106.out 2).trans rfl, (blk_cell BK106.out 3).trans rfl⟩ (fun hHeld => ?_); refine with_tabW packet_sameMessage.tab1 packet_sameMessage.bits1 (fun HT_ HW_ => ?_)
    generalize w13.drew = w14 at BK105 BK106 HB hHeld ⊢
    refine take_ (i := 0) (N := some 5) (v := ?_) (a' := ?_) #[true, false, false, false, false, false, false, false, false, false, false, false, false] rfl rfl (take_ofW HT_.out HW_.out (by kernel_rfl)) (fun _ _ _ h => h) (Or.inl ⟨by rfl, ?_⟩) hHeld ?_ ?_
    rotate_left
    · rintro w' ⟨s0, s1, s2, s3, s4, s5, s6, s7⟩
      go_simp
      with_reducible rfl
    rotate_left
    · simp only [Act.put, List.setIfInBounds_toArray, List.set_cons_zero, List.set_cons_succ, i64_w, i32_w]
      rfl
    refine take_ (i := 2) (N := some 7) (v := ?_) (a' := ?_) #[true, false, true, false, false, false, false, false, false, false, false, false, false] rfl rfl (take_ofW HT_.out HW_.out (by kernel_rfl)) (fun _ _ _ h => h) (Or.inl ⟨by rfl, ?_⟩) hHeld ?_ ?_
    rotate_left
    · rintro w' ⟨s0, s1, s2, s3, s4, s5, s6, s7⟩
      go_simp
      with_reducible rfl
    rotate_left
    · simp only [Act.put, List.setIfInBounds_toArray, List.set_cons_zero, List.set_cons_succ, i64_w, i32_w]
      rfl
    refine one_ (i := 1) (N := some 6) #[true, true, true, false, false, false, false, false, false, false, false, false, false] rfl rfl (one_of HT_.out (by kernel_rfl)) (by decide) (fun K hK => ?_)
    refine goes_ Tryd.func66 (by kernel_rfl) rfl #[.agg #[.string a0_0, .slice A0_1 l0_1.length c0_1, .int .i64 a0_2, .bool a0_3]] (by rfl) rfl rfl (by (try simp only [List.map_toArray, List.map_cons, List.map_nil]); first | done | rfl | (simp only [List.length_drop, List.length_take]; rfl)) ?_
    with_reducible refine (packet_plainly.calls a0_0 _ _ l0_1 a0_2 a0_3 t107 t108 t109 _ ?side1 ?side2 A3.out).mono ?_
    (case side1 => repeat (first | exact (Kd.C_below HR0_1.out HB.out) | (with_reducible refine Kd.C_alloc ?_ _) | (with_reducible refine Kd.C_drewN ?_ _) | (with_reducible refine Kd.C_drew ?_)))
    (case side2 => exact HC0_1.out)
    rintro e w15 ⟨rfl, hb⟩
    refine ⟨_, rfl, ?_⟩
    have n0_ := Aside0.mk (blk_below (g := gb105) (o := .cells #[.string a0_0, .slice A0_1 l0_1.length c0_1, .int .i64 a0_2, .bool a0_3] 39 (0, 0)) (by (with_reducible repeat (first | refine blk_drewN ?_ _ | refine blk_drew ?_ | refine blk_alloc ?_ _)); exact BK105.out) hb)
    have n1_ := Aside0.mk (blk_below (g := gb106) (o := .cells #[.string a1_0, .slice A1_1 l1_1.length c1_1, .int .i64 a1_2, .bool a1_3] 39 (0, 0)) (by (with_reducible repeat (first | refine blk_drewN ?_ _ | refine blk_drew ?_ | refine blk_alloc ?_ _)); exact BK106.out) hb)
    have n2_ := Aside0.mk (below_step (by repeat (first | (with_reducible first | exact HB.out | apply below_alloc | apply pw_below_drewN | apply below_drew1 | refine below_set ?_ GE105.out | refine below_set ?_ GE106.out) | exact HB.out)) hb)
    clear BK105
    clear BK106
    clear HB
    have BK105 := n0_
    have BK106 := n1_
    have HB := n2_
    clear n0_ n1_ n2_
    (try clear hb)
    (try clear hb2)
    (try clear hk)
    (try clear hi)
    refine hK.out _ _ ⟨(blk_cell BK105.out 0).trans rfl, (blk_cell BK105.out 1).trans rfl, (blk_cell BK105.out 2).trans rfl, (blk_cell BK105.out 3).trans rfl, (blk_cell BK106.out 0).trans rfl, (blk_cell BK106.out 1).trans rfl, (blk_cell BK106.out 2).trans rfl, (blk_cell BK106.out 3).trans rfl⟩ (fun hHeld => ?_)
    clear hK K
    refine norm_ (a' := ?_) ?_ ?_
    rotate_left
    · show Act.put _ (some 6) _ = _
      simp only [Act.put, List.setIfInBounds_toArray, List.set_cons_zero, List.set_cons_succ, i64_w, i32_w]
      rfl
    refine one_ (i := 3) (N := some 8) #[true, true, true, true, false, false, false, false, false, false, false, false, false] rfl rfl (one_of HT_.out (by kernel_rfl)) (by decide) (fun K hK => ?_)
    refine goes_ Tryd.func66 (by kernel_rfl) rfl #[.agg #[.string a1_0, .slice A1_1 l1_1.length c1_1, .int .i64 a1_2, .bool a1_3]] (by rfl) rfl rfl (by (try simp only [List.map_toArray, List.map_cons, List.map_nil]); first | done | rfl | (simp only [List.length_drop, List.length_take]; rfl)) ?_
    with_reducible refine (packet_plainly.calls a1_0 _ _ l1_1 a1_2 a1_3 t110 t111 t112 _ ?side1 ?side2 A4.out).mono ?_
    (case side1 => repeat (first | exact (Kd.C_below HR1_1.out HB.out) | (with_reducible refine Kd.C_alloc ?_ _) | (with_reducible refine Kd.C_drewN ?_ _) | (with_reducible refine Kd.C_drew ?_)))
    (case side2 => exact HC1_1.out)
    rintro e w16 ⟨rfl, hb⟩
    refine ⟨_, rfl, ?_⟩
    have n0_ := Aside0.mk (blk_below (g := gb105) (o := .cells #[.string a0_0, .slice A0_1 l0_1.length c0_1, .int .i64 a0_2, .bool a0_3] 39 (0, 0)) (by (with_reducible repeat (first | refine blk_drewN ?_ _ | refine blk_drew ?_ | refine blk_alloc ?_ _)); exact BK105.out) hb)
    have n1_ := Aside0.mk (blk_below (g := gb106) (o := .cells #[.string a1_0, .slice A1_1 l1_1.length c1_1, .int .i64 a1_2, .bool a1_3] 39 (0, 0)) (by (with_reducible repeat (first | refine blk_drewN ?_ _ | refine blk_drew ?_ | refine blk_alloc ?_ _)); exact BK106.out) hb)
    have n2_ := Aside0.mk (below_step (by repeat (first | (with_reducible first | exact HB.out | apply below_alloc | apply pw_below_drewN | apply below_drew1 | refine below_set ?_ GE105.out | refine below_set ?_ GE106.out) | exact HB.out)) hb)
    clear BK105
    clear BK106
    clear HB
    have BK105 := n0_
    have BK106 := n1_
    have HB := n2_
    clear n0_ n1_ n2_
    (try clear hb)
    (try clear hb2)
    (try clear hk)
    (try clear hi)
    refine hK.out _ _ ⟨(blk_cell BK105.out 0).trans rfl, (blk_cell BK105.out 1).trans rfl, (blk_cell BK105.out 2).trans rfl, (blk_cell BK105.out 3).trans rfl, (blk_cell BK106.out 0).trans rfl, (blk_cell BK106.out 1).trans rfl, (blk_cell BK106.out 2).trans rfl, (blk_cell BK106.out 3).trans rfl⟩ (fun hHeld => ?_)
    clear hK K
    refine norm_ (a' := ?_) ?_ ?_
    rotate_left
    · show Act.put _ (some 8) _ = _
      simp only [Act.put, List.setIfInBounds_toArray, List.set_cons_zero, List.set_cons_succ, i64_w, i32_w]
      rfl
    refine pure_ (i := 4) (N := some 9) (v := ?_) (a' := ?_) #[true, true, true, true, true, false, false, false, false, false, false, false, false] rfl rfl (any_of HT_.out (by kernel_rfl)) (fun _ _ _ h => h) (Or.inl ⟨by rfl, ?_⟩) ?_ ?_
    rotate_left
    · intro w'
      go_simp
      with_reducible rfl
    rotate_left
    · simp only [Act.put, List.setIfInBounds_toArray, List.set_cons_zero, List.set_cons_succ, i64_w, i32_w]
      rfl
    refine pure_ (i := 5) (N := some 10) (v := ?_) (a' := ?_) #[true, true, true, true, true, true, false, false, false, false, false, false, false] rfl rfl (any_of HT_.out (by kernel_rfl)) (fun _ _ _ h => h) (Or.inl ⟨by rfl, ?_⟩) ?_ ?_
    rotate_left
    · intro w'
      go_simp
      with_reducible rfl
    rotate_left
    · simp only [Act.put, List.setIfInBounds_toArray, List.set_cons_zero, List.set_cons_succ, i64_w, i32_w]
      rfl
    refine pure_ (i := 6) (N := some 11) (v := undef) (a' := ?_) #[true, true, true, true, true, true, true, false, false, false, false, false, false] rfl rfl (any_of HT_.out (by kernel_rfl)) (fun _ _ _ h => h) (Or.inr ⟨by rfl, rfl⟩) ?_ ?_
    rotate_left
    · simp only [Act.put, List.setIfInBounds_toArray, List.set_cons_zero, List.set_cons_succ, i64_w, i32_w]
      rfl
    refine pure_ (i := 7) (N := some 12) (v := undef) (a' := ?_) #[true, true, true, true, true, true, true, true, false, false, false, false, false] rfl rfl (any_of HT_.out (by kernel_rfl)) (fun _ _ _ h => h) (Or.inr ⟨by rfl, rfl⟩) ?_ ?_
    rotate_left
    · simp only [Act.put, List.setIfInBounds_toArray, List.set_cons_zero, List.set_cons_succ, i64_w, i32_w]
      rfl
    refine pure_ (i := 8) (N := some 13) (v := undef) (a' := ?_) #[true, true, true, true, true, true, true, true, true, false, false, false, false] rfl rfl (any_of HT_.out (by kernel_rfl)) (fun _ _ _ h => h) (Or.inr ⟨by rfl, rfl⟩) ?_ ?_
    rotate_left
    · simp only [Act.put, List.setIfInBounds_toArray, List.set_cons_zero, List.set_cons_succ, i64_w, i32_w]
      rfl
    refine pure_ (i := 9) (N := some 14) (v := undef) (a' := ?_) #[true, true, true, true, true, true, true, true, true, true, false, false, false] rfl rfl (any_of HT_.out (by kernel_rfl)) (fun _ _ _ h => h) (Or.inr ⟨by rfl, rfl⟩) ?_ ?_
    rotate_left
    · simp only [Act.put, List.setIfInBounds_toArray, List.set_cons_zero, List.set_cons_succ, i64_w, i32_w]
      rfl
    refine pure_ (i := 10) (N := some 15) (v := undef) (a' := ?_) #[true, true, true, true, true, true, true, true, true, true, true, false, false] rfl rfl (any_of HT_.out (by kernel_rfl)) (fun _ _ _ h => h) (Or.inr ⟨by rfl, rfl⟩) ?_ ?_
    rotate_left
    · simp only [Act.put, List.setIfInBounds_toArray, List.set_cons_zero, List.set_cons_succ, i64_w, i32_w]
      rfl
    refine pure_ (i := 11) (N := some 16) (v := ?_) (a' := ?_) #[true, true, true, true, true, true, true, true, true, true, true, true, false] rfl rfl (any_of HT_.out (by kernel_rfl)) (fun _ _ _ h => h) (Or.inl ⟨by rfl, ?_⟩) ?_ ?_
    rotate_left
    · intro w'
      go_simp
      with_reducible rfl
    rotate_left
    · simp only [Act.put, List.setIfInBounds_toArray, List.set_cons_zero, List.set_cons_succ, i64_w, i32_w]
      rfl
    refine pure_ (i := 12) (N := some 4) (v := ?_) (a' := ?_) #[true, true, true, true, true, true, true, true, true, true, true, true, true] rfl rfl (any_of HT_.out (by kernel_rfl)) (fun _ _ _ h => h) (Or.inl ⟨by rfl, ?_⟩) ?_ ?_
    rotate_left
    · intro w'
      go_simp
      with_reducible rfl
    rotate_left
    · simp only [Act.put, List.setIfInBounds_toArray, List.set_cons_zero, List.set_cons_succ, i64_w, i32_w]
      rfl
    refine done_ (done_of HT_.out (by kernel_rfl)) ?_
    try go_wp2
    go_ret
    exact ⟨by first | rfl | (simp [errW_none, errW_some] <;> rfl) | (simp [*, errW_none, errW_some] <;> rfl), by repeat (first | (with_reducible first | exact HB.out | apply below_alloc | apply pw_below_drewN | apply below_drew1 | refine below_set ?_ GE105.out | refine below_set ?_ GE106.out) | exact HB.out)⟩
end Go.Proofs.YthlbcgaegaoanaaDoor.PConnPlays

namespace Go.Proofs.YthlbcgaegaoanaaDoor.Cr
open Go Go.RowKit Go.Proofs.YthlbcgaegaoanaaDoorW.PrintWords Go.Proofs.YthlbcgaegaoanaaDoorW.PrintLast Go.Proofs.YthlbcgaegaoanaaDoorW.PrintMore Go.Proofs.YthlbcgaegaoanaaDoor.Kinds Go.Proofs.YthlbcgaegaoanaaDoor.Utf Go.Proofs.YthlbcgaegaoanaaDoor.Chk Go.Proofs.YthlbcgaegaoanaaDoor.Rdr Go.Proofs.YthlbcgaegaoanaaDoor.PConnPlays
set_option linter.unusedVariables false
set_option linter.unusedSimpArgs false
def smB (m : Msg) : Bool := (m.topic.toList == (⟨#[]⟩ : ByteArray).toList && (m.qos == 0 && (m.retain == false))) && ((strOfNums m.payload).toList == (strOfNums []).toList)
theorem sm_eval (m : Msg) : packet_sameMessage.f m.topic m.payload m.qos m.retain ⟨#[]⟩ [] 0 false = some (smB m) := by
  unfold packet_sameMessage.f packet_plainly.f bytes_Equal.f smB
  simp only [Option.bind_some]
  by_cases h : (m.topic.toList == (⟨#[]⟩ : ByteArray).toList && (m.qos == 0 && (m.retain == false))) = true
  · rw [if_pos h, h, Bool.true_and]
  · rw [if_neg h, Bool.eq_false_iff.2 h, Bool.false_and]
theorem sm_any {w : World} (m : Msg) (A : Option Addr) (c : Nat) (hc : m.payload.length ≤ c) (hr : (Kd.int .u8).C w A m.payload.length m.payload) :
    Calls Tryd.prog 55 #[.agg #[.string m.topic, .slice A m.payload.length c, .int .i64 m.qos, .bool m.retain], .agg #[.string ⟨#[]⟩, .slice none 0 0, .int .i64 0, .bool false]] w fun e w' => e = .returned (.bool (smB m)) ∧ Below w.heap.size w w' :=
  packet_sameMessage.calls m.topic A c m.payload m.qos m.retain ⟨#[]⟩ none 0 [] 0 false (smB m) w hr hc (Kd.C_nil _ _) (Nat.le_refl _) (sm_eval m)
theorem wp_wld {P : Program} {c : Code} {Q : Exit → Act → World → Prop} {a : Act} {w w2 : World} (h : w = w2) (h2 : c.wp P Q a w2) : c.wp P Q a w := h ▸ h2
def fEmp (s : ByteArray) : Bool := s.toList.isEmpty
def forB (p : Pkt) : Bool :=
  ((bits .and .i64 (pHas p) 1 == 0) && ((p.level != 0) || p.clean || (p.keep != 0) || !(fEmp p.client) || p.hasWill || p.hasUser || p.hasPass))
  || (!p.hasWill && !smB p.will) || (!p.hasUser && !(fEmp p.user)) || (!p.hasPass && decide (p.pass.length > 0))
  || ((bits .and .i64 (pHas p) 2 == 0) && (p.present || (p.code != 0))) || ((bits .and .i64 (pHas p) 4 == 0) && (p.dup || !smB p.msg))
  || (!numB p && (p.id != 0)) || ((bits .and .i64 (pHas p) 16 == 0) && decide (p.asks.length > 0)) || ((bits .and .i64 (pHas p) 32 == 0) && decide (p.codes.length > 0)) || ((bits .and .i64 (pHas p) 64 == 0) && decide (p.filters.length > 0))
set_option maxRecDepth 100000 in
set_option maxHeartbeats 4000000 in
theorem foreign_any {w : World} (hg : Gl w) (p : Pkt) (cs : List Value) (h : kPkt.K w p cs) (h0 : 1 ≤ p.kind) (h1 : p.kind ≤ 14) :
    Calls Tryd.prog 38 #[.agg cs.toArray] w fun e w' => e = .returned (.bool (forB p)) ∧ Below w.heap.size w w' := by
  obtain ⟨Aw, nw, Ap, np, Am, nm, Aa, na, Ac, nc, Af, nf, hcs, hw, hp, hm, _⟩ := pkt_K h
  have x := hg.has p.kind.toNat (by omega)
  have hs := hg.sz
  have x2 : w.cell? ⟨1, p.kind.toNat, none⟩ = some (.int .i64 (pHas p)) := x
  have q0 : (0 : Int) ≤ p.kind := by omega
  have q1 : p.kind < 15 := by omega
  have xk : (w.alloc (.cells cs.toArray 43)).cell? ⟨w.heap.size, 0, none⟩ = some (.int .i64 p.kind) := by
    have := blk_cell (heap_alloc_new w (.cells cs.toArray 43)) 0
    rw [this, hcs]; rfl
  obtain ⟨hh, hhh⟩ : ∃ hh, hh = pHas p := ⟨_, rfl⟩
  rw [← hhh] at x2
  have x3 : ∀ o, (w.alloc o).cell? ⟨1, p.kind.toNat, none⟩ = some (.int .i64 hh) := fun o => (World.cell?_alloc_past _ _ _ (by show _ < w.heap.size; exact Nat.lt_of_lt_of_le (by decide) hs)).trans x2
  obtain ⟨X, hX⟩ : ∃ X : World, X = (w.alloc (.cells cs.toArray 43)).alloc (.cells #[.string ⟨#[]⟩, .slice none 0 0, .int .i64 0, .bool false] 39) := ⟨_, rfl⟩
  have hBX : Below w.heap.size w X := by rw [hX]; exact below_alloc (below_alloc (Below.refl _ _) _) _
  have hg0 : X.heap[w.heap.size]? = some (.cells cs.toArray 43 (0, 0)) := by rw [hX]; exact (Below.heap_alloc _ _ _ (by simp)).trans (heap_alloc_new _ _)
  have hg1 : X.heap[w.heap.size + 1]? = some (.cells #[.string ⟨#[]⟩, .slice none 0 0, .int .i64 0, .bool false] 39 (0, 0)) := by
    rw [hX]; have := heap_alloc_new (w.alloc (.cells cs.toArray 43)) (.cells #[.string ⟨#[]⟩, .slice none 0 0, .int .i64 0, .bool false] 39); simpa using this
  have hkx := kPkt.K_below hBX h
  rw [hcs] at hkx hg0
  obtain ⟨c0, hc0⟩ : ∃ c : Bool, c = ((bits .and .i64 hh 1 == 0) && ((p.level != 0) || p.clean || (p.keep != 0) || !(fEmp p.client) || p.hasWill || p.hasUser || p.hasPass)) := ⟨_, rfl⟩
  obtain ⟨c1, hc1⟩ : ∃ c : Bool, c = (!p.hasWill && !smB p.will) := ⟨_, rfl⟩
  obtain ⟨c2, hc2⟩ : ∃ c : Bool, c = (!p.hasUser && !(fEmp p.user)) := ⟨_, rfl⟩
  obtain ⟨c3, hc3⟩ : ∃ c : Bool, c = (!p.hasPass && decide (p.pass.length > 0)) := ⟨_, rfl⟩
  obtain ⟨c4, hc4⟩ : ∃ c : Bool, c = ((bits .and .i64 hh 2 == 0) && (p.present || (p.code != 0))) := ⟨_, rfl⟩
  obtain ⟨c5, hc5⟩ : ∃ c : Bool, c = ((bits .and .i64 hh 4 == 0) && (p.dup || !smB p.msg)) := ⟨_, rfl⟩
  obtain ⟨c6, hc6⟩ : ∃ c : Bool, c = (!numB p && (p.id != 0)) := ⟨_, rfl⟩
  obtain ⟨c7, hc7⟩ : ∃ c : Bool, c = ((bits .and .i64 hh 16 == 0) && decide (p.asks.length > 0)) := ⟨_, rfl⟩
  obtain ⟨c8, hc8⟩ : ∃ c : Bool, c = ((bits .and .i64 hh 32 == 0) && decide (p.codes.length > 0)) := ⟨_, rfl⟩
  obtain ⟨c9, hc9⟩ : ∃ c : Bool, c = ((bits .and .i64 hh 64 == 0) && decide (p.filters.length > 0)) := ⟨_, rfl⟩
  have HFB := Aside0.mk (show forB p = (c0 || c1 || c2 || c3 || c4 || c5 || c6 || c7 || c8 || c9) by rw [hc0, hc1, hc2, hc3, hc4, hc5, hc6, hc7, hc8, hc9, hhh]; rfl)
  have HC0 := Aside0.mk hc0
  have HC1 := Aside0.mk hc1
  have HC2 := Aside0.mk hc2
  have HC3 := Aside0.mk hc3
  have HC4 := Aside0.mk hc4
  have HC5 := Aside0.mk hc5
  have HC6 := Aside0.mk hc6
  have HC7 := Aside0.mk hc7
  have HC8 := Aside0.mk hc8
  have HC9 := Aside0.mk hc9
  have HWP := Aside0.mk (And.intro hw.1 (Kd.C_below hw.2 hBX))
  have HMP := Aside0.mk (And.intro hm.1 (Kd.C_below hm.2 hBX))
  have HBX := Aside0.mk hBX
  have HG0 := Aside0.mk hg0
  have HG1 := Aside0.mk hg1
  have HKX := Aside0.mk hkx
  have HGX := Aside0.mk (hg.below hBX hg.sz hBX.size)
  have HX := Aside0.mk hX
  have HSZ := Aside0.mk (show (Tryd.prog.info? 43).map (·.size) = some (pktCells p (.slice Aw p.will.payload.length nw) (.slice Ap p.pass.length np) (.slice Am p.msg.payload.length nm) (.slice Aa p.asks.length na) (.slice Ac p.codes.length nc) (.slice Af p.filters.length nf)).toArray.size from pktSize)
  have gx0 : w.heap.size < X.heap.size := blk_lt hg0
  have gx1 : w.heap.size + 1 < X.heap.size := blk_lt hg1
  clear hs hcs hg x h hhh hX hBX hg0 hg1 hkx hw hm hp hc0 hc1 hc2 hc3 hc4 hc5 hc6 hc7 hc8 hc9
  go_enter Tryd.func38, Tryd.ntmps38
  go_upto_region 4 with fail
  refine wp_wld (w2 := X) (by rw [HX.out]) ?_
  clear x3 x2 xk
  have HP0 := Aside0.mk (((Below.refl _ _).block w.heap.size gx0).trans HG0.out)
  have b1 : X.cell? ⟨w.heap.size, 1, none⟩ = some (.int .i64 p.level) := blk_cell HP0.out 1
  have b2 : X.cell? ⟨w.heap.size, 2, none⟩ = some (.bool p.clean) := blk_cell HP0.out 2
  have b3 : X.cell? ⟨w.heap.size, 3, none⟩ = some (.int .i64 p.keep) := blk_cell HP0.out 3
  have b4 : X.cell? ⟨w.heap.size, 4, none⟩ = some (.string p.client) := blk_cell HP0.out 4
  have b5 : X.cell? ⟨w.heap.size, 5, none⟩ = some (.bool p.hasWill) := blk_cell HP0.out 5
  have b10 : X.cell? ⟨w.heap.size, 10, none⟩ = some (.bool p.hasUser) := blk_cell HP0.out 10
  have b12 : X.cell? ⟨w.heap.size, 12, none⟩ = some (.bool p.hasPass) := blk_cell HP0.out 12
  go_cut [9] (fun s wx => s = .bool c0 ∧ Aside0 (Below X.heap.size X wx))
  case first =>
    go_wp2
    all_goals
      go_meet
      case rel => exact ⟨by rw [HC0.out]; simp_all [fEmp], (by first | exact HBn | exact ⟨(Below.refl _ _)⟩)⟩
  case rest =>
    obtain ⟨rfl, HB0⟩ := hcut
    obtain ⟨wx0, hwx⟩ : ∃ wx : World, wx = wc := ⟨_, rfl⟩
    subst hwx
    clear b1 b2 b3 b4 b5 b10 b12
    cases hc0 : c0 with
    | true =>
      go_wp2
      go_ret
      exact ⟨by rw [HFB.out, hc0]; simp, HBX.out.trans (HB0.out.mono HBX.out.size)⟩
    | false =>
      go_upto_region 5 with fail
      have HP1 := Aside0.mk ((HB0.out.block w.heap.size gx0).trans HG0.out)
      have b5 : wx0.cell? ⟨w.heap.size, 5, none⟩ = some (.bool p.hasWill) := blk_cell HP1.out 5
      have b6 : wx0.cell? ⟨w.heap.size, 6, none⟩ = some (.string p.will.topic) := blk_cell HP1.out 6
      have b7 : wx0.cell? ⟨w.heap.size, 7, none⟩ = some (.slice Aw p.will.payload.length nw) := blk_cell HP1.out 7
      have b8 : wx0.cell? ⟨w.heap.size, 8, none⟩ = some (.int .i64 p.will.qos) := blk_cell HP1.out 8
      have b9 : wx0.cell? ⟨w.heap.size, 9, none⟩ = some (.bool p.will.retain) := blk_cell HP1.out 9
      have n0 : wx0.cell? ⟨w.heap.size + 1, 0, none⟩ = some (.string ⟨#[]⟩) := blk_cell ((HB0.out.block (w.heap.size + 1) gx1).trans HG1.out) 0
      have n1 : wx0.cell? ⟨w.heap.size + 1, 1, none⟩ = some (.slice none 0 0) := blk_cell ((HB0.out.block (w.heap.size + 1) gx1).trans HG1.out) 1
      have n2 : wx0.cell? ⟨w.heap.size + 1, 2, none⟩ = some (.int .i64 0) := blk_cell ((HB0.out.block (w.heap.size + 1) gx1).trans HG1.out) 2
      have n3 : wx0.cell? ⟨w.heap.size + 1, 3, none⟩ = some (.bool false) := blk_cell ((HB0.out.block (w.heap.size + 1) gx1).trans HG1.out) 3
      go_cut [44] (fun s wx => s = .bool c1 ∧ Aside0 (Below X.heap.size X wx))
      case first =>
        go_wp2_with (go_at_call 55; (with_reducible refine (sm_any p.will Aw nw HWP.out.1 (Kd.C_below HWP.out.2 HB0.out)).mono ?_); rintro e w1 ⟨rfl, hB⟩; have HBn := Aside0.mk (HB0.out.trans (hB.mono HB0.out.size)); clear hB)
        all_goals
          go_meet
          case rel => exact ⟨by rw [HC1.out]; simp_all [fEmp], (by first | exact HBn | exact ⟨HB0.out⟩)⟩
      case rest =>
        obtain ⟨rfl, HB1⟩ := hcut
        obtain ⟨wx1, hwx⟩ : ∃ wx : World, wx = wc := ⟨_, rfl⟩
        subst hwx
        clear b5 b6 b7 b8 b9 n0 n1 n2 n3
        cases hc1 : c1 with
        | true =>
          go_wp2
          go_ret
          exact ⟨by rw [HFB.out, hc0, hc1]; simp, HBX.out.trans (HB1.out.mono HBX.out.size)⟩
        | false =>
          go_upto_region 6 with fail
          have HP2 := Aside0.mk ((HB1.out.block w.heap.size gx0).trans HG0.out)
          have b10 : wx1.cell? ⟨w.heap.size, 10, none⟩ = some (.bool p.hasUser) := blk_cell HP2.out 10
          have b11 : wx1.cell? ⟨w.heap.size, 11, none⟩ = some (.string p.user) := blk_cell HP2.out 11
          go_cut [55] (fun s wx => s = .bool c2 ∧ Aside0 (Below X.heap.size X wx))
          case first =>
            go_wp2
            all_goals
              go_meet
              case rel => exact ⟨by rw [HC2.out]; simp_all [fEmp], (by first | exact HBn | exact ⟨HB1.out⟩)⟩
          case rest =>
            obtain ⟨rfl, HB2⟩ := hcut
            obtain ⟨wx2, hwx⟩ : ∃ wx : World, wx = wc := ⟨_, rfl⟩
            subst hwx
            clear b10 b11
            cases hc2 : c2 with
            | true =>
              go_wp2
              go_ret
              exact ⟨by rw [HFB.out, hc0, hc1, hc2]; simp, HBX.out.trans (HB2.out.mono HBX.out.size)⟩
            | false =>
              go_upto_region 7 with fail
              have HP3 := Aside0.mk ((HB2.out.block w.heap.size gx0).trans HG0.out)
              have b12 : wx2.cell? ⟨w.heap.size, 12, none⟩ = some (.bool p.hasPass) := blk_cell HP3.out 12
              have b13 : wx2.cell? ⟨w.heap.size, 13, none⟩ = some (.slice Ap p.pass.length np) := blk_cell HP3.out 13
              go_cut [64] (fun s wx => s = .bool c3 ∧ Aside0 (Below X.heap.size X wx))
              case first =>
                go_wp2
                all_goals
                  go_meet
                  case rel => exact ⟨by rw [HC3.out]; simp_all [fEmp], (by first | exact HBn | exact ⟨HB2.out⟩)⟩
              case rest =>
                obtain ⟨rfl, HB3⟩ := hcut
                obtain ⟨wx3, hwx⟩ : ∃ wx : World, wx = wc := ⟨_, rfl⟩
                subst hwx
                clear b12 b13
                cases hc3 : c3 with
                | true =>
                  go_wp2
                  go_ret
                  exact ⟨by rw [HFB.out, hc0, hc1, hc2, hc3]; simp, HBX.out.trans (HB3.out.mono HBX.out.size)⟩
                | false =>
                  go_upto_region 8 with fail
                  have HP4 := Aside0.mk ((HB3.out.block w.heap.size gx0).trans HG0.out)
                  have b14 : wx3.cell? ⟨w.heap.size, 14, none⟩ = some (.bool p.present) := blk_cell HP4.out 14
                  have b15 : wx3.cell? ⟨w.heap.size, 15, none⟩ = some (.int .i64 p.code) := blk_cell HP4.out 15
                  go_cut [74] (fun s wx => s = .bool c4 ∧ Aside0 (Below X.heap.size X wx))
                  case first =>
                    go_wp2
                    all_goals
                      go_meet
                      case rel => exact ⟨by rw [HC4.out]; simp_all [fEmp], (by first | exact HBn | exact ⟨HB3.out⟩)⟩
                  case rest =>
                    obtain ⟨rfl, HB4⟩ := hcut
                    obtain ⟨wx4, hwx⟩ : ∃ wx : World, wx = wc := ⟨_, rfl⟩
                    subst hwx
                    clear b14 b15
                    cases hc4 : c4 with
                    | true =>
                      go_wp2
                      go_ret
                      exact ⟨by rw [HFB.out, hc0, hc1, hc2, hc3, hc4]; simp, HBX.out.trans (HB4.out.mono HBX.out.size)⟩
                    | false =>
                      go_upto_region 9 with fail
                      have HP5 := Aside0.mk ((HB4.out.block w.heap.size gx0).trans HG0.out)
                      have b16 : wx4.cell? ⟨w.heap.size, 16, none⟩ = some (.bool p.dup) := blk_cell HP5.out 16
                      have b17 : wx4.cell? ⟨w.heap.size, 17, none⟩ = some (.string p.msg.topic) := blk_cell HP5.out 17
                      have b18 : wx4.cell? ⟨w.heap.size, 18, none⟩ = some (.slice Am p.msg.payload.length nm) := blk_cell HP5.out 18
                      have b19 : wx4.cell? ⟨w.heap.size, 19, none⟩ = some (.int .i64 p.msg.qos) := blk_cell HP5.out 19
                      have b20 : wx4.cell? ⟨w.heap.size, 20, none⟩ = some (.bool p.msg.retain) := blk_cell HP5.out 20
                      have n0 : wx4.cell? ⟨w.heap.size + 1, 0, none⟩ = some (.string ⟨#[]⟩) := blk_cell ((HB4.out.block (w.heap.size + 1) gx1).trans HG1.out) 0
                      have n1 : wx4.cell? ⟨w.heap.size + 1, 1, none⟩ = some (.slice none 0 0) := blk_cell ((HB4.out.block (w.heap.size + 1) gx1).trans HG1.out) 1
                      have n2 : wx4.cell? ⟨w.heap.size + 1, 2, none⟩ = some (.int .i64 0) := blk_cell ((HB4.out.block (w.heap.size + 1) gx1).trans HG1.out) 2
                      have n3 : wx4.cell? ⟨w.heap.size + 1, 3, none⟩ = some (.bool false) := blk_cell ((HB4.out.block (w.heap.size + 1) gx1).trans HG1.out) 3
                      go_cut [87] (fun s wx => s = .bool c5 ∧ Aside0 (Below X.heap.size X wx))
                      case first =>
                        go_wp2_with (go_at_call 55; (with_reducible refine (sm_any p.msg Am nm HMP.out.1 (Kd.C_below HMP.out.2 HB4.out)).mono ?_); rintro e w1 ⟨rfl, hB⟩; have HBn := Aside0.mk (HB4.out.trans (hB.mono HB4.out.size)); clear hB)
                        all_goals
                          go_meet
                          case rel => exact ⟨by rw [HC5.out]; simp_all [fEmp], (by first | exact HBn | exact ⟨HB4.out⟩)⟩
                      case rest =>
                        obtain ⟨rfl, HB5⟩ := hcut
                        obtain ⟨wx5, hwx⟩ : ∃ wx : World, wx = wc := ⟨_, rfl⟩
                        subst hwx
                        clear b16 b17 b18 b19 b20 n0 n1 n2 n3
                        cases hc5 : c5 with
                        | true =>
                          go_wp2
                          go_ret
                          exact ⟨by rw [HFB.out, hc0, hc1, hc2, hc3, hc4, hc5]; simp, HBX.out.trans (HB5.out.mono HBX.out.size)⟩
                        | false =>
                          go_upto_region 10 with fail
                          have HP6 := Aside0.mk ((HB5.out.block w.heap.size gx0).trans HG0.out)
                          have b21 : wx5.cell? ⟨w.heap.size, 21, none⟩ = some (.int .i64 p.id) := blk_cell HP6.out 21
                          go_cut [102] (fun s wx => s = .bool c6 ∧ Aside0 (Below X.heap.size X wx))
                          case first =>
                            go_wp2_with (first
                              | (refine wpList_load_row rfl 43 _ rfl w.heap.size rfl 43 _ (0, 0) _ HP6.out Tryd.underlying43 rfl HSZ.out ?_)
                              | (go_at_call 43; (with_reducible refine (numbered_any (HGX.out.below HB5.out (Nat.le_trans HGX.out.sz (Nat.le_refl _)) HB5.out.size) p _ (kPkt.K_below HB5.out HKX.out) h0 h1).mono ?_); rintro e w1 ⟨rfl, hB⟩; have HBn := Aside0.mk (HB5.out.trans (hB.mono HB5.out.size)); clear hB; have b21 : w1.cell? ⟨w.heap.size, 21, none⟩ = some (.int .i64 p.id) := blk_cell ((HBn.out.block w.heap.size gx0).trans HG0.out) 21))
                            all_goals
                              go_meet
                              case rel => exact ⟨by rw [HC6.out]; simp_all [fEmp], (by first | exact HBn | exact ⟨HB5.out⟩)⟩
                          case rest =>
                            obtain ⟨rfl, HB6⟩ := hcut
                            obtain ⟨wx6, hwx⟩ : ∃ wx : World, wx = wc := ⟨_, rfl⟩
                            subst hwx
                            clear b21
                            cases hc6 : c6 with
                            | true =>
                              go_wp2
                              go_ret
                              exact ⟨by rw [HFB.out, hc0, hc1, hc2, hc3, hc4, hc5, hc6]; simp, HBX.out.trans (HB6.out.mono HBX.out.size)⟩
                            | false =>
                              go_upto_region 11 with fail
                              have HP7 := Aside0.mk ((HB6.out.block w.heap.size gx0).trans HG0.out)
                              have b22 : wx6.cell? ⟨w.heap.size, 22, none⟩ = some (.slice Aa p.asks.length na) := blk_cell HP7.out 22
                              go_cut [111] (fun s wx => s = .bool c7 ∧ Aside0 (Below X.heap.size X wx))
                              case first =>
                                go_wp2
                                all_goals
                                  go_meet
                                  case rel => exact ⟨by rw [HC7.out]; simp_all [fEmp], (by first | exact HBn | exact ⟨HB6.out⟩)⟩
                              case rest =>
                                obtain ⟨rfl, HB7⟩ := hcut
                                obtain ⟨wx7, hwx⟩ : ∃ wx : World, wx = wc := ⟨_, rfl⟩
                                subst hwx
                                clear b22
                                cases hc7 : c7 with
                                | true =>
                                  go_wp2
                                  go_ret
                                  exact ⟨by rw [HFB.out, hc0, hc1, hc2, hc3, hc4, hc5, hc6, hc7]; simp, HBX.out.trans (HB7.out.mono HBX.out.size)⟩
                                | false =>
                                  go_upto_region 12 with fail
                                  have HP8 := Aside0.mk ((HB7.out.block w.heap.size gx0).trans HG0.out)
                                  have b23 : wx7.cell? ⟨w.heap.size, 23, none⟩ = some (.slice Ac p.codes.length nc) := blk_cell HP8.out 23
                                  go_cut [121] (fun s wx => s = .bool c8 ∧ Aside0 (Below X.heap.size X wx))
                                  case first =>
                                    go_wp2
                                    all_goals
                                      go_meet
                                      case rel => exact ⟨by rw [HC8.out]; simp_all [fEmp], (by first | exact HBn | exact ⟨HB7.out⟩)⟩
                                  case rest =>
                                    obtain ⟨rfl, HB8⟩ := hcut
                                    obtain ⟨wx8, hwx⟩ : ∃ wx : World, wx = wc := ⟨_, rfl⟩
                                    subst hwx
                                    clear b23
                                    cases hc8 : c8 with
                                    | true =>
                                      go_wp2
                                      go_ret
                                      exact ⟨by rw [HFB.out, hc0, hc1, hc2, hc3, hc4, hc5, hc6, hc7, hc8]; simp, HBX.out.trans (HB8.out.mono HBX.out.size)⟩
                                    | false =>
                                      go_upto_region 13 with fail
                                      have HP9 := Aside0.mk ((HB8.out.block w.heap.size gx0).trans HG0.out)
                                      have b24 : wx8.cell? ⟨w.heap.size, 24, none⟩ = some (.slice Af p.filters.length nf) := blk_cell HP9.out 24
                                      go_cut [131] (fun s wx => s = .bool c9 ∧ Aside0 (Below X.heap.size X wx))
                                      case first =>
                                        go_wp2
                                        all_goals
                                          go_meet
                                          case rel => exact ⟨by rw [HC9.out]; simp_all [fEmp], (by first | exact HBn | exact ⟨HB8.out⟩)⟩
                                      case rest =>
                                        obtain ⟨rfl, HB9⟩ := hcut
                                        obtain ⟨wx9, hwx⟩ : ∃ wx : World, wx = wc := ⟨_, rfl⟩
                                        subst hwx
                                        clear b24
                                        cases hc9 : c9 with
                                        | true =>
                                          go_wp2
                                          go_ret
                                          exact ⟨by rw [HFB.out, hc0, hc1, hc2, hc3, hc4, hc5, hc6, hc7, hc8, hc9]; simp, HBX.out.trans (HB9.out.mono HBX.out.size)⟩
                                        | false =>
                                          go_wp2
                                          go_ret
                                          exact ⟨by rw [HFB.out, hc0, hc1, hc2, hc3, hc4, hc5, hc6, hc7, hc8, hc9]; rfl, HBX.out.trans (HB9.out.mono HBX.out.size)⟩
end Go.Proofs.YthlbcgaegaoanaaDoor.Cr

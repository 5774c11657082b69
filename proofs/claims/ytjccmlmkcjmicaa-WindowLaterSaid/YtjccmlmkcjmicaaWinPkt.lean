/- The walks of a flight's packet and of a window's launch. No statement of the program. -/
import Derived.Test.YtjccmlmkcjmicaaPkt
import Derived.Test.YtjccmlmkcjmicaaWinSend
import Derived.Deep.MidRow
import Derived.Deep.WholeRow
import Derived.Deep.RegionLaw
namespace Go.Proofs.Ytjccmlmkcjmicaa.Win
open Go Go.RowKit Go.Maps Go.MapKept Go.ChangeMaps Go.Proofs.YtjccmlmkcjmicaaW.PrintWords Go.Proofs.Ytjccmlmkcjmicaa.Kinds
set_option linter.unusedVariables false
set_option linter.unusedSimpArgs false

/-- the result of a function whose one result is a variable of its own, a struct: the whole block -/
theorem results_block {P : Program} {fn : Func} {tmps : Array Value} {w : World} {k : Nat} {t : TypeId} {g : Nat} {cs : Array Value} {d : TypeDesc} (hr : fn.results = #[.cell k t]) (hp : tmps.getD k undef = .pointer (some ⟨g, 0, none⟩)) (hg : w.heap[g]? = some (.cells cs t (0, 0)))
    (hu : P.underlying t = some d) (hd : (match d with | .struct _ | .array _ _ => true | _ => false) = true) (hi : (P.info? t).map (·.size) = some cs.size) : (results fn tmps).run P w = .ok (.agg cs) w := by
  have h := run_loadVar_row w g t t cs (0, 0) d hg hu hd hi
  have hp' : tmps[k]?.getD undef = .pointer (some ⟨g, 0, none⟩) := by rw [← hp]; simp
  simp [results, hr, hp', asAddr, h]

theorem setRow_block {w : World} {g : Nat} {old cs : Array Value} {t : TypeId} (h : w.heap[g]? = some (.cells old t (0, 0))) : (w.setRow g cs).heap[g]? = some (.cells cs t (0, 0)) := by
  simp only [World.setRow]
  rw [Array.getElem?_modify]
  simp [h]
theorem setRow_far {w : World} {g k : Nat} (h : k ≠ g) (cs : Array Value) : (w.setRow g cs).heap[k]? = w.heap[k]? := by
  simp only [World.setRow]
  rw [Array.getElem?_modify]
  rw [if_neg (fun e => h e.symm)]
theorem setRow_below {w w0 : World} {base g : Nat} (h : Below base w0 w) (hg : base ≤ g) (cs : Array Value) : Below base w0 (w.setRow g cs) := by
  refine ⟨h.os, h.tape, h.output, by simpa [World.setRow] using h.size, fun k hk => ?_⟩
  rw [← h.block k hk]
  simp only [World.setRow]
  rw [Array.getElem?_modify]
  simp [show ¬ g = k by omega]
theorem run_storeAt_row {P : Program} (w : World) (g : Nat) (ty : TypeId) (old cells : Array Value) (hg : w.heap[g]? = some (.cells old ty (0, 0))) (hi : (P.info? ty).map (·.size) = some cells.size)
    (ho : old.size = cells.size) (h1 : cells.all (·.oneCell') = true) : (Instr.storeAt ty (.pointer (some ⟨g, 0, none⟩)) (.agg cells)).run P w = .ok () (w.setRow g cells) := by
  simp only [Instr.storeAt, Instr.sureAddr, Sem.run_bind, Sem.run_pure, Result.andThen_ok, run_storeVar_row w g ty ty old cells hg hi ho h1]

theorem alloc_new2 (w : World) (o1 o2 : Obj) : ((w.alloc o1).alloc o2).heap[w.heap.size + 1]? = some o2 := by
  have := alloc_new (w.alloc o1) o2
  simpa using this
theorem alloc_new1 (w : World) (o1 o2 : Obj) : ((w.alloc o1).alloc o2).heap[w.heap.size]? = some o1 := by
  rw [show ((w.alloc o1).alloc o2).heap[w.heap.size]? = (w.alloc o1).heap[w.heap.size]? from heap_alloc_old _ _ (by simp)]; exact alloc_new w _
theorem pktSize : (Try.prog.info? 75).map (·.size) = some 25 := by kernel_rfl
def noCells : Array Value := (pktCells noPkt (.slice none 0 0) (.slice none 0 0) (.slice none 0 0) (.slice none 0 0) (.slice none 0 0) (.slice none 0 0)).toArray

section
attribute [-go_sem] Instr.storeAt
set_option maxRecDepth 100000 in
set_option maxHeartbeats 2000000 in
theorem packet_any (f : Flt) (A : Option Addr) (c : Nat) (again : Bool) (w : World) (hr : (Kd.int .u8).C w A f.msg.payload.length f.msg.payload) (hl : f.msg.payload.length ≤ 1099511627776) :
    Calls Try.prog 69 #[.agg #[.int .i64 f.id, .string f.msg.topic, .slice A f.msg.payload.length c, .int .i64 f.msg.qos, .bool f.msg.retain, .bool f.released], .bool again] w fun e w' => ∃ cs : List Value, e = .returned (.agg cs.toArray) ∧
      kPkt.M w' w.heap.size (fun k => w.heap.size ≤ k) (pktOf f again) cs ∧ Below w.heap.size w w' := by
  have HR := Aside0.mk hr
  have HO := fun (W : World) (h : Below w.heap.size w W) => Aside0.mk (own_any f.msg A c W (Kd.C_below hr h) hl)
  clear hr
  obtain ⟨id, ⟨t, p, q, r⟩, rel⟩ := f
  dsimp only at *
  cases rel
  · go_enter Try.func69, Try.ntmps69
    go_wp2_with fail
    have hd : Below w.heap.size w ((w.alloc (.cells #[.int .i64 id, .string t, .slice A p.length c, .int .i64 q, .bool r, .bool false] 112)).alloc (.cells noCells 75)) := ((Below.refl _ _).alloc (Nat.le_refl _) _).alloc (by simp) _
    have hb1 := alloc_new2 w (.cells #[.int .i64 id, .string t, .slice A p.length c, .int .i64 q, .bool r, .bool false] 112) (.cells noCells 75)
    have hb0 := alloc_new1 w (.cells #[.int .i64 id, .string t, .slice A p.length c, .int .i64 q, .bool r, .bool false] 112) (.cells noCells 75)
    have hsz : ((w.alloc (.cells #[.int .i64 id, .string t, .slice A p.length c, .int .i64 q, .bool r, .bool false] 112)).alloc (.cells noCells 75)).heap.size = w.heap.size + 2 := by simp
    change Code.wp _ _ _ _ ((w.alloc (.cells #[.int .i64 id, .string t, .slice A p.length c, .int .i64 q, .bool r, .bool false] 112)).alloc (.cells noCells 75))
    generalize (w.alloc (.cells #[.int .i64 id, .string t, .slice A p.length c, .int .i64 q, .bool r, .bool false] 112)).alloc (.cells noCells 75) = W at *
    have x0 : W.cell? ⟨w.heap.size, 0, none⟩ = some (.int .i64 id) := blk_cell hb0 0
    have x1 : W.cell? ⟨w.heap.size, 1, none⟩ = some (.string t) := blk_cell hb0 1
    have x2 : W.cell? ⟨w.heap.size, 2, none⟩ = some (.slice A p.length c) := blk_cell hb0 2
    have x3 : W.cell? ⟨w.heap.size, 3, none⟩ = some (.int .i64 q) := blk_cell hb0 3
    have x4 : W.cell? ⟨w.heap.size, 4, none⟩ = some (.bool r) := blk_cell hb0 4
    have HD := Aside0.mk hd
    have HB1 := Aside0.mk hb1
    have hx : w.heap.size < W.heap.size := by omega
    have hy : w.heap.size + 1 < W.heap.size := by omega
    have HOW := HO W.drew (hd.trans ((below_drew (Below.refl W.heap.size W)).mono (show w.heap.size ≤ W.heap.size by omega)))
    clear hb0 hb1 hd hsz HO
    go_region_law
      (go_simp; go_at_call 65; refine HOW.out.mono ?_; rintro e w3 ⟨A', c', rfl, hR, hb⟩
       have y0 : w3.cell? ⟨w.heap.size, 0, none⟩ = some (.int .i64 id) := (hb.cell (p := ⟨w.heap.size, 0, none⟩) hx).trans x0
       have hg3 := (hb.block (w.heap.size + 1) hy).trans HB1.out
       have hst := run_storeAt_row (P := Try.prog) w3 (w.heap.size + 1) 75 noCells (pktCells { noPkt with kind := 3, msg := ⟨t, p, q, r⟩, id := id, dup := again } (.slice none 0 0) (.slice none 0 0) (.slice A' p.length c') (.slice none 0 0) (.slice none 0 0) (.slice none 0 0)).toArray hg3 pktSize rfl (by simp [pktCells, Value.oneCell'])
       simp only [pktCells, noPkt, noMsg] at hst
       have HB3 := Aside0.mk hb
       have HR3 := Aside0.mk hR
       have HG3 := Aside0.mk hg3
       clear hg3 hb hR)
    all_goals
      have hz : W.drew.heap.size = W.heap.size := rfl
      have hR4 : (Kd.int .u8).R 5 (w3.setRow (w.heap.size + 1) (pktCells { noPkt with kind := 3, msg := ⟨t, p, q, r⟩, id := id, dup := again } (.slice none 0 0) (.slice none 0 0) (.slice A' p.length c') (.slice none 0 0) (.slice none 0 0) (.slice none 0 0)).toArray) w.heap.size (fun k => w.heap.size ≤ k) (.slice A' p.length c') p :=
        Kd.R_mono (Kd.R_step (Kd.R_lower HR3.out (by omega)) (fun k hk _ => setRow_far (by omega) _)) (fun k hk => by omega)
      have hB4 := setRow_below (HD.out.trans ((below_drew (Below.refl W.heap.size W)).mono (show w.heap.size ≤ W.heap.size by omega)) |>.trans (HB3.out.mono (show w.heap.size ≤ W.drew.heap.size by omega))) (show w.heap.size ≤ w.heap.size + 1 by omega) (pktCells { noPkt with kind := 3, msg := ⟨t, p, q, r⟩, id := id, dup := again } (.slice none 0 0) (.slice none 0 0) (.slice A' p.length c') (.slice none 0 0) (.slice none 0 0) (.slice none 0 0)).toArray
      have hG4 := setRow_block (cs := (pktCells { noPkt with kind := 3, msg := ⟨t, p, q, r⟩, id := id, dup := again } (.slice none 0 0) (.slice none 0 0) (.slice A' p.length c') (.slice none 0 0) (.slice none 0 0) (.slice none 0 0)).toArray) HG3.out
      have F4 := Aside0.mk (And.intro hR4 (And.intro hB4 hG4))
      clear hR4 hB4 hG4
      go_wp2_with fail
      refine bodyPost_ret (results_block Try.results69 rfl F4.out.2.2 Try.underlying75 rfl pktSize) rfl ⟨_, rfl, ?_, F4.out.2.1⟩
      exact pkt_M_mk (Kd.R_nil _ _ _ _ _) (Kd.R_nil _ _ _ _ _) F4.out.1 (Kd.R_nil _ _ _ _ _) (Kd.R_nil _ _ _ _ _) (Kd.R_nil _ _ _ _ _)
  · go_enter Try.func69, Try.ntmps69
    go_wp2_with (refine wpList_store_row rfl 75 _ _ rfl (w.heap.size + 1) _ rfl rfl 75 _ (alloc_new2 _ _ _) pktSize rfl (by simp [Value.oneCell']) ?_)
    refine bodyPost_ret (results_block Try.results69 rfl (setRow_block (alloc_new2 _ _ _)) Try.underlying75 rfl pktSize) rfl ⟨pktCells (pktOf ⟨id, ⟨t, p, q, r⟩, true⟩ again) (.slice none 0 0) (.slice none 0 0) (.slice none 0 0) (.slice none 0 0) (.slice none 0 0) (.slice none 0 0), rfl, ?_, ?_⟩
    · exact pkt_M_mk (Kd.R_nil _ _ _ _ _) (Kd.R_nil _ _ _ _ _) (Kd.R_nil _ _ _ _ _) (Kd.R_nil _ _ _ _ _) (Kd.R_nil _ _ _ _ _) (Kd.R_nil _ _ _ _ _)
    · exact setRow_below (((Below.refl _ _).alloc (Nat.le_refl _) _).alloc (by simp) _) (by omega) _
end
end Go.Proofs.Ytjccmlmkcjmicaa.Win

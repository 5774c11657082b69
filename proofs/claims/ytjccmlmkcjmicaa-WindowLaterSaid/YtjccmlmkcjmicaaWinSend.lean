/- The walks of a window's Send where nothing is launched. No statement of the program. -/
import Derived.Test.YtjccmlmkcjmicaaWinNum
import Derived.Deep.RegionHeld3
import Derived.Deep.RegionLaw
import Derived.Deep.QuietTactic
import Derived.BigQuiet
namespace Go.Proofs.Ytjccmlmkcjmicaa.Win
open Go Go.RowKit Go.Maps Go.MapKept Go.ChangeMaps Go.Proofs.YtjccmlmkcjmicaaW.PrintWords Go.Proofs.Ytjccmlmkcjmicaa.Kinds
set_option linter.unusedVariables false
set_option linter.unusedSimpArgs false

theorem alloc_new (w : World) (o : Obj) : (w.alloc o).heap[w.heap.size]? = some o := by
  show (w.heap.push o)[w.heap.size]? = some o
  simp
/-- the blocks of ok, and those that are new since w -/
def okN (ok : Nat → Prop) (w w' : World) : Nat → Prop := fun k => ok k ∨ (w.heap.size ≤ k ∧ k < w'.heap.size)

set_option maxRecDepth 100000 in
set_option maxHeartbeats 2000000 in
theorem send_refused {w : World} {B : Nat} (m : Msg) (A : Option Addr) (c : Nat) (hs : sendB m = false) :
    Calls Try.prog 24 #[.pointer (some ⟨B, 0, none⟩), .agg #[.string m.topic, .slice A m.payload.length c, .int .i64 m.qos, .bool m.retain]] w fun e w' => e = .returned (.tuple #[.slice none 0 0, .bool false, .int .i64 122]) ∧ Below w.heap.size w w' := by
  have HS := fun v W => Aside0.mk (sendable_any m v W)
  rw [hs] at HS
  obtain ⟨t, p, q, r⟩ := m
  dsimp only at *
  clear hs
  go_enter Try.func24, Try.ntmps24
  go_wp2_with (go_at_call 63; refine (HS _ _).out.mono ?_; rintro e w1 ⟨rfl, hb⟩; have HB := Aside0.mk (((Below.refl w.heap.size w).alloc (Nat.le_refl _) _).trans (hb.mono (by simp))); clear hb)
  go_ret3
  exact ⟨rfl, HB.out⟩

theorem WinAt.bound {w : World} {base B bm : Nat} {ok : Nat → Prop} {s : WS} {vf vw : Value} (h : WinAt w base ok B s vf vw bm) : WinAt w base (fun k => ok k ∧ k < w.heap.size) B s vf vw bm := by
  refine ⟨⟨h.okB, blk_lt h.blk⟩, ⟨h.okM, ?_⟩, h.baseB, h.baseM, h.blk, Kd.R_mono (Kd.R_bound h.flights) (fun k hk => ⟨hk.1, hk.2.2.1⟩), Kd.Q_mono (Kd.Q_bound h.waits) (fun k hk => ⟨hk.1, hk.2.2.1⟩), h.map⟩
  obtain ⟨es, clock, hb, _⟩ := h.map
  exact (Array.getElem?_eq_some_iff.1 hb).1
theorem WinAt'.bound {w : World} {base B : Nat} {ok : Nat → Prop} {s : WS} (h : WinAt' w base ok B s) : WinAt' w base (fun k => ok k ∧ k < w.heap.size) B s := by
  obtain ⟨vf, vw, bm, h⟩ := h; exact ⟨vf, vw, bm, h.bound⟩
theorem WinAt'.okN {w w' : World} {base B : Nat} {ok : Nat → Prop} {s : WS} (h : WinAt' w' base (fun k => ok k ∨ w.heap.size ≤ k) B s) : WinAt' w' base (okN ok w w') B s :=
  h.bound.mono (fun k hk => by rcases hk.1 with h1 | h1; · exact .inl h1
                               · exact .inr ⟨h1, hk.2⟩)
/-- an element is laid behind what waits -/
theorem WinAt.wait {w w1 : World} {base B bm : Nat} {ok ok' : Nat → Prop} {s : WS} {vf vw : Value} (h : WinAt w base ok B s vf vw bm) {v1 : Value} {ws : List Msg} (hq : kMsg.Q 64 w1 base ok' v1 ws) (hg : w.grownBy w1 vw.ownBlock) (hok : ∀ k, ok k → ok' k) :
    WinAt (w1.setCell ⟨B, 4, none⟩ v1) base ok' B { s with waits := ws } vf v1 bm := by
  have hB1 : w1.heap[B]? = some (.cells (winCells s vf vw bm) 103 (0, 0)) := blk_grown h.blk hg (Kd.Q_ne h.waits h.blk (by decide))
  have hf : kFlt.R 112 w1 base ok vf s.flights := Kd.R_over' h.flights (e' := 64) (fun k hk => Kd.Q_typed h.waits k hk) (by decide) hg
  have hmap : w1.ownsMap Try.prog 3 (unitElem (H := Unit)) bm (Maps.size s.D) s.D := by
    obtain ⟨es, clock, hb, r⟩ := h.map
    refine ⟨es, clock, (hg.block bm (Array.getElem?_eq_some_iff.1 hb).1 (fun e => ?_)).trans hb, r⟩
    obtain ⟨cells, hc⟩ := Kd.Q_typed h.waits bm e.symm
    rw [hb] at hc; cases hc
  have h1 : WinAt w1 base ok' B s vf vw bm ∨ True := .inr trivial
  refine ⟨hok _ h.okB, hok _ h.okM, h.baseB, h.baseM, ?_, Kd.R_mono (Kd.R_set hf hB1 (by decide) 4 v1) hok, Kd.Q_set hq hB1 (by decide) 4 v1, hmap.setCell (a := ⟨B, 4, none⟩) (fun e => ?_) v1⟩
  · rw [blk_set hB1 4 v1]; simp [winCells]
  · obtain ⟨es, clock, hb, _⟩ := hmap
    have e' : bm = B := e
    subst e'
    rw [hB1] at hb
    cases hb

set_option maxRecDepth 100000 in
set_option maxHeartbeats 2000000 in
theorem send_waits {w : World} {base B : Nat} {ok : Nat → Prop} {s : WS} (h : WinAt' w base ok B s) (hok : WOk s) (m : Msg) (A : Option Addr) (c : Nat) (w0 : World) (hwb : Below base w0 w) (hbw : base ≤ w.heap.size)
    (hr : (Kd.int .u8).C w A m.payload.length m.payload) (hml : m.payload.length ≤ 1099511627776) (hs : sendB m = true) (hnl : ¬ (s.online = true ∧ (s.flights.length : Int) < s.window)) (hlt : (s.waits.length : Int) < s.queue) :
    Calls Try.prog 24 #[.pointer (some ⟨B, 0, none⟩), .agg #[.string m.topic, .slice A m.payload.length c, .int .i64 m.qos, .bool m.retain]] w fun e w' => e = .returned (.tuple #[.slice none 0 0, .bool true, .int .i64 0]) ∧
      WinAt' w' base (okN ok w w') B { s with waits := s.waits ++ [m] } ∧ Fr ok w w' ∧ Below base w0 w' := by
  have HS := fun v W => Aside0.mk (sendable_any m v W)
  rw [hs] at HS
  obtain ⟨vf, vw, bm, h⟩ := h
  have HR := Aside0.mk hr
  have H := Aside0.mk h
  have HOK := Aside0.mk hok
  clear h hr hs hok
  obtain ⟨t, p, q, r⟩ := m
  dsimp only at *
  go_enter Try.func24, Try.ntmps24
  go_wp2_with (go_at_call 63; refine (HS _ _).out.mono ?_; rintro e w1 ⟨rfl, hb⟩; have HB := Aside0.mk (((Below.refl w.heap.size w).alloc (Nat.le_refl _) _).trans (hb.mono (by simp))); have hx := (hb.block w.heap.size (by simp)).trans (alloc_new w _); clear hb)
  have H1 := Aside0.mk (H.out.below HB.out)
  obtain ⟨c0, c1, c2, c3, c4, c5, c6, cf⟩ := H1.out.cells
  obtain ⟨Af, cf', hef⟩ := Kd.R_slice H.out.flights
  subst hef
  obtain ⟨Aw, cw, hew, hcw⟩ := Kd.Q_slice H.out.waits
  subst hew
  have hfl := HOK.out.fl
  have hwl := HOK.out.wl
  have HX := Aside0.mk hx
  clear c2 c5 hx
  have hnl' : s.online = false ∨ (s.online = true ∧ ¬ (s.flights.length : Int) < s.window) := by
    cases ho : s.online
    · exact .inl rfl
    · exact .inr ⟨rfl, fun h => hnl ⟨ho, h⟩⟩
  clear hnl
  have hlt' : (s.waits.length : Int) < s.queue := hlt
  rcases hnl' with ho | ⟨ho, hn⟩
  all_goals
    rw [ho] at c6
    have HO := Aside0.mk ho
    clear ho
    go_quiet (fail)
    go_wp2_with fail
    go_quiet (fail)
    go_wp2_with fail
  all_goals
    generalize hW2 : World.drewN _ _ = W2
    have hd : Below w1.heap.size w1 W2.drew := by rw [← hW2]; first | exact (pw_below_drewN (pw_below_drewN (Below.refl _ _) _) _).drew | exact (pw_below_drewN (Below.refl _ _) _).drew
    clear hW2
    have hbW : Below w.heap.size w W2.drew := HB.out.trans (hd.mono HB.out.size)
    have H2 := Aside0.mk (H1.out.below hd)
    have hxx := (hd.block w.heap.size (blk_lt HX.out)).trans HX.out
    have hBl : B < W2.heap.size := blk_lt H2.out.blk
    have hxl : w.heap.size < W2.heap.size := blk_lt hxx
    have hc4 : W2.cell? ⟨B, 4, none⟩ = some (.slice Aw s.waits.length cw) := blk_cell H2.out.blk 4
    have hx0 : W2.cell? ⟨w.heap.size, 0, none⟩ = some (.string t) := blk_cell hxx 0
    have hx1 : W2.cell? ⟨w.heap.size, 1, none⟩ = some (.slice A p.length c) := blk_cell hxx 1
    have hx2 : W2.cell? ⟨w.heap.size, 2, none⟩ = some (.int .i64 q) := blk_cell hxx 2
    have hx3 : W2.cell? ⟨w.heap.size, 3, none⟩ = some (.bool r) := blk_cell hxx 3
    have HOwn := Aside0.mk (own_any ⟨t, p, q, r⟩ A c W2.drew (Kd.C_below HR.out hbW) hml)
    have HBW := Aside0.mk hbW
    have hs1 : w.heap.size ≤ W2.heap.size := hbW.size
    have HXX := Aside0.mk hxx
    clear c0 c1 c3 c4 c6 cf hd hbW hxx
    go_region_law
      (first
        | (go_simp; go_at_call 65; refine HOwn.out.mono ?_; rintro e w3 ⟨A', c', rfl, hR, hb⟩
           have y4 : w3.cell? ⟨B, 4, none⟩ = some (.slice Aw s.waits.length cw) := (hb.cell (p := ⟨B, 4, none⟩) hBl).trans hc4
           have y4a : ∀ o, (w3.alloc o).cell? ⟨B, 4, none⟩ = some (.slice Aw s.waits.length cw) := fun o => (World.cell?_alloc_past _ _ _ (Nat.lt_of_lt_of_le hBl (by have := hb.size; simpa using this))).trans y4)
        | (refine Kd.Q_append_step kMsg (w0 := w0) base (by rfl) (.tmp 47) (.tmp 50) 71 64 (.agg #[.string ⟨#[]⟩, .slice none 0 0, .int .i64 0, .bool false]) 56 (by rfl) Try.underlying71 infoMsg (by rfl) (by decide) (by omega) (.slice Aw s.waits.length cw) s.waits ⟨t, p, q, r⟩ [.string t, .slice A' p.length c', .int .i64 q, .bool r] (fun k => ok k ∨ w.heap.size ≤ k) (fun k => W2.heap.size ≤ k) (by rfl) (by rfl) ?hp ?hokp ?hfresh ?HO ?HB ?hbase ?hl ?_
           (case hp => exact msg_M_mk (m := ⟨t, p, q, r⟩) (Kd.R_lower hR (Nat.le_trans hbw hs1)))
           (case hokp => exact fun k hk => ⟨.inr (Nat.le_trans hs1 hk), fun e => by have := Kd.Q_lt H2.out.waits k e.symm; simp at this; omega⟩)
           (case hfresh => have := hb.size; simp at this; exact fun k hk => .inr (by omega))
           (case HO => exact Kd.Q_mono (Kd.Q_below H2.out.waits hb) (fun k hk => .inl hk))
           (case HB => have := hb.size; exact (hwb.trans (HBW.out.mono hbw)).trans (hb.mono (Nat.le_trans hbw hs1)))
           (case hbase => have := hb.size; simp at this; omega)
           (case hl => omega)
           intro v1 w4 hq hbl hg hat
           have HB3 := Aside0.mk hb
           have HQ4 := Aside0.mk hq
           have HB4 := Aside0.mk hbl
           have HG4 := Aside0.mk hg
           obtain ⟨A1, c1, he, _⟩ := Kd.Q_slice hq
           subst he
           have hB4 := (H2.out.below hb)
           have hc4' : w4.cell? ⟨B, 4, none⟩ = some (.slice Aw s.waits.length cw) := blk_cell (blk_grown hB4.blk hg (Kd.Q_ne hB4.waits hB4.blk (by decide))) 4
           have hf4' : w4.frozen? ⟨B, 4, none⟩ = false := blk_frozen (blk_grown hB4.blk hg (Kd.Q_ne hB4.waits hB4.blk (by decide))) 4
           have hbx := blk_grown ((hb.block w.heap.size hxl).trans HXX.out) hg (fun e => by have := Kd.Q_lt H.out.waits w.heap.size e.symm; omega)
           have z0 : w4.cell? ⟨w.heap.size, 0, none⟩ = some (.string t) := blk_cell hbx 0
           have z1 : w4.cell? ⟨w.heap.size, 1, none⟩ = some (.slice A p.length c) := blk_cell hbx 1
           have z2 : w4.cell? ⟨w.heap.size, 2, none⟩ = some (.int .i64 q) := blk_cell hbx 2
           have z3 : w4.cell? ⟨w.heap.size, 3, none⟩ = some (.bool r) := blk_cell hbx 3
           clear hq hbl hg hat hR hB4 hbx))
    all_goals go_goals
    all_goals
      have HF := Aside0.mk (WinAt.wait (ok' := fun k => ok k ∨ w.heap.size ≤ k) (H2.out.below HB3.out) HQ4.out HG4.out (fun k hk => .inl hk))
      have hF : Fr ok w w3 := Fr.of_below _ (HBW.out.trans (HB3.out.mono hs1))
      have hF4 := hF.grown HG4.out (fun k _ he => H.out.waits.1 k he)
      have hB5 : Below base w0 w4 := HB4.out
      go_wp2_with fail
      go_ret3
      refine ⟨rfl, ?_, ?_, ?_⟩
      · exact WinAt'.okN ⟨_, _, _, by have h := HF.out; rw [List.length_append] at h; exact h⟩
      · exact (hF4.setCell (p := ⟨B, 4, none⟩) (fun _ => H.out.okB) _)
      · exact (hB5.setCell (p := ⟨B, 4, none⟩) H.out.baseB _)

set_option maxRecDepth 100000 in
set_option maxHeartbeats 2000000 in
theorem send_lost {w : World} {base B : Nat} {ok : Nat → Prop} {s : WS} (h : WinAt' w base ok B s) (hok : WOk s) (m : Msg) (A : Option Addr) (c : Nat)
    (hs : sendB m = true) (hnl : ¬ (s.online = true ∧ (s.flights.length : Int) < s.window)) (hlt : ¬ (s.waits.length : Int) < s.queue) :
    Calls Try.prog 24 #[.pointer (some ⟨B, 0, none⟩), .agg #[.string m.topic, .slice A m.payload.length c, .int .i64 m.qos, .bool m.retain]] w fun e w' => e = .returned (.tuple #[.slice none 0 0, .bool false, .int .i64 0]) ∧ Below w.heap.size w w' := by
  have HS := fun v W => Aside0.mk (sendable_any m v W)
  rw [hs] at HS
  obtain ⟨vf, vw, bm, h⟩ := h
  have H := Aside0.mk h
  have HOK := Aside0.mk hok
  clear h hs hok
  obtain ⟨t, p, q, r⟩ := m
  dsimp only at *
  go_enter Try.func24, Try.ntmps24
  go_wp2_with (go_at_call 63; refine (HS _ _).out.mono ?_; rintro e w1 ⟨rfl, hb⟩; have HB := Aside0.mk (((Below.refl w.heap.size w).alloc (Nat.le_refl _) _).trans (hb.mono (by simp))); clear hb)
  have H1 := Aside0.mk (H.out.below HB.out)
  obtain ⟨c0, c1, c2, c3, c4, c5, c6, cf⟩ := H1.out.cells
  obtain ⟨Af, cf', hef⟩ := Kd.R_slice H.out.flights
  subst hef
  obtain ⟨Aw, cw, hew, hcw⟩ := Kd.Q_slice H.out.waits
  subst hew
  have hfl := HOK.out.fl
  have hwl := HOK.out.wl
  clear c2 c5
  have hnl' : s.online = false ∨ (s.online = true ∧ ¬ (s.flights.length : Int) < s.window) := by
    cases ho : s.online
    · exact .inl rfl
    · exact .inr ⟨rfl, fun h => hnl ⟨ho, h⟩⟩
  clear hnl
  have hlt' : ¬ (s.waits.length : Int) < s.queue := by omega
  rcases hnl' with ho | ⟨ho, hn⟩
  all_goals
    rw [ho] at c6
    have HO := Aside0.mk ho
    clear ho
    go_quiet (fail)
    go_wp2_with fail
    go_quiet (fail)
    go_wp2_with fail
    go_ret3
    exact ⟨rfl, by first | exact pw_below_drewN (pw_below_drewN HB.out _) _ | exact pw_below_drewN HB.out _⟩
end Go.Proofs.Ytjccmlmkcjmicaa.Win

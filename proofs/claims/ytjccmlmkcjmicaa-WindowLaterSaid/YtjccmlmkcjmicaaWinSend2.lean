/- The walk of a window's Send, all of it. No statement of the program. -/
import Derived.Test.YtjccmlmkcjmicaaWinFill
namespace Go.Proofs.Ytjccmlmkcjmicaa.Win
open Go Go.RowKit Go.Maps Go.MapKept Go.ChangeMaps Go.Proofs.YtjccmlmkcjmicaaW.PrintWords Go.Proofs.Ytjccmlmkcjmicaa.Kinds
set_option linter.unusedVariables false
set_option linter.unusedSimpArgs false

theorem R_one {w : World} {base : Nat} {okp : Nat → Prop} {p : Pkt} {cs : List Value} (h : kPkt.M w base okp p cs) (hb : base ≤ w.heap.size) :
    kPkt.R 75 (w.alloc (.cells cs.toArray 75)) base (fun k => okp k ∨ k = w.heap.size) (.slice (some ⟨w.heap.size, 0, none⟩) 1 1) [p] := by
  have hl : cs.length = 25 := kPkt.K_len (kPkt.K_of_M h)
  have hM : kPkt.M (w.alloc (.cells cs.toArray 75)) base (fun k => okp k ∧ k < w.heap.size) p cs := kPkt.M_move (fun k hk => heap_alloc_old _ _ hk.2) (kPkt.M_mono (fun k hk => ⟨hk.1, hk.2.2.1⟩) (kPkt.M_bound h))
  refine ⟨fun k hk => .inr (by simp [Value.ownBlock] at hk; exact hk.symm), cs, ⟨by rw [hl]; rfl, .inr ⟨w.heap.size, 1, cs.toArray, rfl, hb, heap_alloc_new w _, Nat.le_refl _, by decide, by rw [List.size_toArray, hl]; rfl, ?_⟩⟩, ?_⟩
  · rw [List.length_singleton, Nat.one_mul, show kPkt.sz = 25 from rfl, ← hl]; simp
  · refine ⟨by rw [hl]; rfl, fun j q hq => ?_⟩
    rcases j with _ | j
    · simp at hq
      subst hq
      rw [show kPkt.sz = cs.length from hl.symm]
      simp only [Nat.zero_mul, List.drop_zero, List.take_length]
      exact kPkt.M_mono (fun k hk => ⟨.inl hk.1, by simp [Value.ownBlock]; omega⟩) hM
    · simp at hq

theorem FillAt.nil {w w' w0 : World} {base B : Nat} {ok : Nat → Prop} {s' : WS} (h : WinAt' w' base (okN ok w w') B s') (hf : Fr ok w w') (hb : Below base w0 w') : FillAt w base ok B w0 (.slice none 0 0) [] (fun _ => False) s' w' :=
  ⟨Kd.R_nil _ _ _ _ _, fun k hk => hk.elim, h.mono (fun k hk => ⟨hk, fun e => e⟩), hf, hb⟩
theorem FillAt.quiet {w w' w0 : World} {base B : Nat} {ok : Nat → Prop} {s : WS} (h : WinAt' w base ok B s) (hb : Below w.heap.size w w') (hwb : Below base w0 w) (hbw : base ≤ w.heap.size) : FillAt w base ok B w0 (.slice none 0 0) [] (fun _ => False) s w' :=
  .nil ((h.below hb).mono (fun k hk => .inl hk)) (Fr.of_below ok hb) (hwb.trans (hb.mono hbw))
theorem FillAt.mono {w w' w0 : World} {base B : Nat} {ok ok' okp : Nat → Prop} {s : WS} {l : Value} {ps : List Pkt} (h : FillAt w base ok B w0 l ps okp s w') (hk : ∀ k, ok k → ok' k) : FillAt w base ok' B w0 l ps okp s w' :=
  ⟨h.pk, h.new, h.win.mono (fun k hk' => ⟨Or.elim hk'.1 (fun h => .inl (hk k h)) (fun h => .inr h), hk'.2⟩), h.fr.mono (fun k _ h => hk k h), h.bel⟩

/-- Send: the packets, is it taken, the error, the window behind it -/
structure SendR where
  ps : List Pkt
  took : Bool
  err : Int
  s : WS
def sendF (s : WS) (m : Msg) : SendR :=
  if sendB m = false then ⟨[], false, 122, s⟩
  else if s.online = true ∧ (s.flights.length : Int) < s.window then ⟨[launchP s m], true, 0, launchS s m⟩
  else if (s.waits.length : Int) < s.queue then ⟨[], true, 0, { s with waits := s.waits ++ [m] }⟩
  else ⟨[], false, 0, s⟩

set_option maxRecDepth 100000 in
set_option maxHeartbeats 2000000 in
theorem send_launch {w : World} {base B : Nat} {ok : Nat → Prop} {s : WS} (h : WinAt' w base ok B s) (hok : WOk s) (m : Msg) (A : Option Addr) (c : Nat) (w0 : World) (hwb : Below base w0 w) (hbw : base ≤ w.heap.size)
    (hr : (Kd.int .u8).C w A m.payload.length m.payload) (hml : Short m) (hs : sendB m = true) (hl : s.online = true ∧ (s.flights.length : Int) < s.window) :
    Calls Try.prog 24 #[.pointer (some ⟨B, 0, none⟩), .agg #[.string m.topic, .slice A m.payload.length c, .int .i64 m.qos, .bool m.retain]] w fun e w' => ∃ (v : Value) (okp : Nat → Prop), e = .returned (.tuple #[v, .bool true, .int .i64 0]) ∧
      FillAt w base ok B w0 v [launchP s m] okp (launchS s m) w' := by
  have HS := fun v W => Aside0.mk (sendable_any m v W)
  rw [hs] at HS
  have hlen : s.flights.length < 65536 := by have := hok.w2; have := hl.2; omega
  have hLa := fun (X : World) (hX : Below w.heap.size w X) => Aside0.mk (launch_call (h.below hX) hok m A c w0 (hwb.trans (hX.mono hbw)) (Nat.le_trans hbw hX.size) (Kd.C_below hr hX) hml hlen)
  obtain ⟨vf, vw, bm, h⟩ := h
  have HR := Aside0.mk hr
  have H := Aside0.mk h
  have HOK := Aside0.mk hok
  clear h hr hs hok
  obtain ⟨t, p, q, rt⟩ := m
  dsimp only at *
  go_enter Try.func24, Try.ntmps24
  go_wp2_with (go_at_call 63; refine (HS _ _).out.mono ?_; rintro e w1 ⟨rfl, hb⟩; have HB := Aside0.mk (((Below.refl w.heap.size w).alloc (Nat.le_refl _) _).trans (hb.mono (by simp))); have hx := (hb.block w.heap.size (by simp)).trans (alloc_new w _); clear hb)
  have H1 := Aside0.mk (H.out.below HB.out)
  obtain ⟨c0, c1, c2, c3, c4, c5, c6, cf⟩ := H1.out.cells
  obtain ⟨Af, cf', hef⟩ := Kd.R_slice H.out.flights
  subst hef
  have HX := Aside0.mk hx
  have hfl := HOK.out.fl
  clear c1 c2 c4 c5 hx
  obtain ⟨ho, hn⟩ := hl
  have hd1 : decide ((s.flights.length : Int) < s.window) = true := decide_eq_true hn
  rw [ho] at c6
  have HO := Aside0.mk ho
  clear ho hn
  go_quiet (fail)
  clear c0 c3 c6 cf
  generalize hW2 : World.drewN _ _ = W2
  have hd : Below w1.heap.size w1 W2 := by rw [← hW2]; exact pw_below_drewN (Below.refl _ _) _
  clear hW2
  have hbW : Below w.heap.size w W2 := HB.out.trans (hd.mono HB.out.size)
  have hxx := (hd.block w.heap.size (blk_lt HX.out)).trans HX.out
  have x0 : W2.cell? ⟨w.heap.size, 0, none⟩ = some (.string t) := blk_cell hxx 0
  have x1 : W2.cell? ⟨w.heap.size, 1, none⟩ = some (.slice A p.length c) := blk_cell hxx 1
  have x2 : W2.cell? ⟨w.heap.size, 2, none⟩ = some (.int .i64 q) := blk_cell hxx 2
  have x3 : W2.cell? ⟨w.heap.size, 3, none⟩ = some (.bool rt) := blk_cell hxx 3
  have HLa := hLa W2 hbW
  have HBW := Aside0.mk hbW
  clear hLa hd hbW hxx
  go_wp2_with fail
  refine HLa.out.mono ?_
  rintro e w4 ⟨cs, okp, rfl, hM, hn, hw, hf, hb⟩
  have hR := R_one (kPkt.M_lower (HBW.out.size) hM) (Nat.le_trans HBW.out.size hf.size)
  have hlc : cs.length = 25 := kPkt.K_len (kPkt.K_of_M hM)
  have hs2 := HBW.out.size
  have hs4 := hf.size
  have hF : FillAt w base ok B w0 (.slice (some ⟨w4.heap.size, 0, none⟩) 1 1) [launchP s ⟨t, p, q, rt⟩] (fun k => (okp k ∨ k = w4.heap.size)) (launchS s ⟨t, p, q, rt⟩) (w4.alloc (.cells cs.toArray 75)) := by
    have hal : Below w4.heap.size w4 (w4.alloc (.cells cs.toArray 75)) := (Below.refl _ _).alloc (Nat.le_refl _) _
    refine ⟨hR, fun k hk => ?_, ((hw.bound).below hal).mono (fun k hk => ⟨?_, ?_⟩), (((Fr.of_below (fun _ => False) HBW.out).mono (fun _ _ e => e.elim)).trans hf (fun k _ e => e)).trans (Fr.of_below (fun _ => False) hal) (fun _ _ e => e.elim), hb.trans (hal.mono (by have := hb.size; omega))⟩
    · rw [World.size_alloc]
      rcases hk with hk | hk
      · have := hn k hk; omega
      · omega
    · rcases hk.1.1 with h1 | h1
      · exact .inl h1
      · exact .inr ⟨by omega, by rw [World.size_alloc]; omega⟩
    · rintro (h1 | h1)
      · exact hk.1.2 h1
      · have := hk.2; omega
  have HF := Aside0.mk hF
  have HLEN := Aside0.mk hlc
  clear hF hlc hR hM hn hw hf hb
  go_wp2_with (refine wpList_buildOne rfl 65 75 _ rfl cs rfl (.agg noCells) 25 328 Try.underlying65 infoPkt rfl HLEN.out (by decide) (by decide) ?_)
  go_ret3
  exact ⟨_, _, rfl, HF.out⟩

theorem send_any {w : World} {base B : Nat} {ok : Nat → Prop} {s : WS} (h : WinAt' w base ok B s) (hok : WOk s) (m : Msg) (A : Option Addr) (c : Nat) (w0 : World) (hwb : Below base w0 w) (hbw : base ≤ w.heap.size)
    (hr : (Kd.int .u8).C w A m.payload.length m.payload) (hml : Short m) :
    Calls Try.prog 24 #[.pointer (some ⟨B, 0, none⟩), .agg #[.string m.topic, .slice A m.payload.length c, .int .i64 m.qos, .bool m.retain]] w fun e w' => ∃ (v : Value) (okp : Nat → Prop), e = .returned (.tuple #[v, .bool (sendF s m).took, .int .i64 (sendF s m).err]) ∧
      FillAt w base ok B w0 v (sendF s m).ps okp (sendF s m).s w' := by
  unfold sendF
  cases hs : sendB m
  · rw [if_pos rfl]
    refine (send_refused m A c hs).mono ?_
    rintro e w' ⟨rfl, hb⟩
    exact ⟨_, _, rfl, FillAt.quiet h hb hwb hbw⟩
  · rw [if_neg (by simp)]
    by_cases hl : s.online = true ∧ (s.flights.length : Int) < s.window
    · rw [if_pos hl]
      exact send_launch h hok m A c w0 hwb hbw hr hml hs hl
    · rw [if_neg hl]
      by_cases hlt : (s.waits.length : Int) < s.queue
      · rw [if_pos hlt]
        refine (send_waits h hok m A c w0 hwb hbw hr hml hs hl hlt).mono ?_
        rintro e w' ⟨rfl, hw, hf, hb⟩
        exact ⟨_, _, rfl, FillAt.nil hw hf hb⟩
      · rw [if_neg hlt]
        refine (send_lost h hok m A c hs hl hlt).mono ?_
        rintro e w' ⟨rfl, hb⟩
        exact ⟨_, _, rfl, FillAt.quiet h hb hwb hbw⟩
end Go.Proofs.Ytjccmlmkcjmicaa.Win

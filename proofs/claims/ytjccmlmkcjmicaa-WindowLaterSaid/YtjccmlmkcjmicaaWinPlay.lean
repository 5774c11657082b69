/- The walk of crierlaw12.play: one call of a window. No statement of the program. -/
import Derived.Test.YtjccmlmkcjmicaaWinLaw
namespace Go.Proofs.Ytjccmlmkcjmicaa.Win
open Go Go.RowKit Go.Maps Go.MapKept Go.ChangeMaps Go.Proofs.YtjccmlmkcjmicaaW.PrintWords Go.Proofs.Ytjccmlmkcjmicaa.Kinds
set_option linter.unusedVariables false
set_option linter.unusedSimpArgs false

/-- one call of a script -/
structure OpV where
  kind : Int
  second : Bool
  m : Msg
  a : Int
  n : Int
def opCells (o : OpV) (v : Value) : Array Value := #[.int .i64 o.kind, .bool o.second, .string o.m.topic, v, .int .i64 o.m.qos, .bool o.m.retain, .int .i64 o.a, .int .i64 o.n]
/-- the place that a number means in a list -/
def pickI (n : Int) (len : Nat) : Nat := (Int.tmod (Int.tmod n len + len) len).toNat
def playF (s : WS) (o : OpV) : List Pkt × WS :=
  if o.kind = 1 then ((sendF s o.m).ps, (sendF s o.m).s)
  else if o.kind = 2 then ackF s o.a o.n
  else if o.kind = 3 then upF s
  else if o.kind = 4 then ([], { s with online := false })
  else if o.kind = 5 then ([], resS s)
  else if o.kind = 6 then ([], { s with D := s.D.del (.int .i64 o.n) })
  else if o.kind = 9 then (if s.flights = [] then ([], s) else ackF s o.a (s.flights.getD (pickI o.n s.flights.length) noFlt).id)
  else ([], s)
theorem FillAt.changed {w w' w0 : World} {base B : Nat} {ok : Nat → Prop} {s' : WS} (h : WinAt' w' base ok B s') (hf : Fr ok w w') (hwb : Below base w0 w) (hok : ∀ k, ok k → base ≤ k) (hbw : base ≤ w.heap.size) : FillAt w base ok B w0 (.slice none 0 0) [] (fun _ => False) s' w' :=
  .nil (h.mono (fun k hk => .inl hk)) hf (hf.below hwb hok hbw)
theorem FillAt.start {w X X1 w0 : World} {base B : Nat} {ok okp : Nat → Prop} {s : WS} {v : Value} {ps : List Pkt} (h : FillAt X base ok B w0 v ps okp s X1) (hb : Below w.heap.size w X) : FillAt w base ok B w0 v ps okp s X1 := by
  have hs := hb.size
  refine ⟨Kd.R_lower h.pk hs, fun k hk => ⟨Nat.le_trans hs (h.new k hk).1, (h.new k hk).2⟩, h.win.mono (fun k hk => ⟨?_, hk.2⟩), (Fr.of_below ok hb).trans h.fr (fun k _ hk => hk), h.bel⟩
  rcases hk.1 with h1 | h1
  · exact .inl h1
  · exact .inr ⟨by omega, h1.2⟩

theorem pickI_eq (n : Int) (L : Nat) (h : 0 < L) (hl : L ≤ 65536) : (IntKind.i64.wrap (Int.tmod n L + L)).tmod L = (pickI n L : Int) ∧ pickI n L < L := by
  have h1 : -(L : Int) < Int.tmod n L := by
    have := Int.lt_tmod_of_pos n (b := (L : Int)) (by omega)
    exact this
  have h2 : Int.tmod n L < L := Int.tmod_lt_of_pos n (by omega)
  have hw : IntKind.i64.wrap (Int.tmod n L + L) = Int.tmod n L + L := by rw [IntKind.wrap_i64]; omega
  have h3 : 0 ≤ Int.tmod (Int.tmod n L + L) L := Int.tmod_nonneg _ (by omega)
  have h4 : Int.tmod (Int.tmod n L + L) L < L := Int.tmod_lt_of_pos _ (by omega)
  rw [hw]
  unfold pickI
  omega
theorem field_flights (x : Int) (A1 A2 : Option Addr) (n1 c1 n2 c2 : Nat) (W : World) : (Instr.field 85 (.agg #[.int .i64 x, .slice A1 n1 c1, .slice A2 n2 c2]) 1).run Try.prog W = .ok (.slice A1 n1 c1) W := by kernel_rfl

set_option maxRecDepth 100000 in
set_option maxHeartbeats 4000000 in
theorem play_any {w : World} {base B : Nat} {ok : Nat → Prop} {s : WS} (h : WinAt' w base ok B s) (hi : WInv s) (hpl : WPl s) (o : OpV) (Ap : Option Addr) (cp : Nat) (hr : (Kd.int .u8).C w Ap o.m.payload.length o.m.payload) (hsh : Short o.m) (hn : (Lit.int .i64 o.n).wf = true)
    (w0 : World) (hwb : Below base w0 w) (hbw : base ≤ w.heap.size) (hokb : ∀ k, ok k → base ≤ k) :
    Calls Try.prog 31 #[.pointer (some ⟨B, 0, none⟩), .agg (opCells o (.slice Ap o.m.payload.length cp))] w fun e w' => ∃ (v : Value) (okp : Nat → Prop), e = .returned v ∧ FillAt w base ok B w0 v (playF s o).1 okp (playF s o).2 w' := by
  have H := fun (X : World) (hX : Below w.heap.size w X) => h.below hX
  have hok := hi.ok
  have hSend := fun (X : World) (hX : Below w.heap.size w X) => Aside0.mk (send_any (H X hX) hok o.m Ap cp w0 (hwb.trans (hX.mono hbw)) (Nat.le_trans hbw hX.size) (Kd.C_below hr hX) hsh)
  have hAck := fun (X : World) (hX : Below w.heap.size w X) id => Aside0.mk (ack_any (H X hX) hok hpl o.a id w0 (hwb.trans (hX.mono hbw)) (Nat.le_trans hbw hX.size))
  have hUp := fun (X : World) (hX : Below w.heap.size w X) => Aside0.mk (up_any (H X hX) hok hpl w0 (hwb.trans (hX.mono hbw)) (Nat.le_trans hbw hX.size))
  have hDown := fun (X : World) (hX : Below w.heap.size w X) => Aside0.mk (down_any (H X hX))
  have hRes := fun (X : World) (hX : Below w.heap.size w X) => Aside0.mk (reserve_any (H X hX) hok (by have := hi.sz; have := hok.w1; omega))
  have hImg := fun (X : World) (hX : Below w.heap.size w X) => Aside0.mk (image_any (H X hX) hok hpl)
  have hFree := fun (X : World) (hX : Below w.heap.size w X) => Aside0.mk (free_any (H X hX) o.n hn)
  have HC := Aside0.mk (And.intro h (And.intro hwb hokb))
  clear H h hr hpl hok
  obtain ⟨kind, sec, ⟨t, p, q, rt⟩, a, n⟩ := o
  unfold opCells playF
  dsimp only at *
  have hbx : Below w.heap.size w (w.alloc (.cells #[.int .i64 kind, .bool sec, .string t, .slice Ap p.length cp, .int .i64 q, .bool rt, .int .i64 a, .int .i64 n] 78)) := (Below.refl _ _).alloc (Nat.le_refl _) _
  by_cases k1 : kind = 1
  · subst k1
    rw [if_pos rfl]
    have HS := hSend _ hbx
    have HBX := Aside0.mk hbx
    clear hSend hAck hUp hDown hRes hFree hImg hbx
    go_enter Try.func31, Try.ntmps31
    go_wp2_with fail
    refine HS.out.mono ?_
    rintro e w4 ⟨v, okp, rfl, hF⟩
    have HF := Aside0.mk (hF.start HBX.out)
    clear hF
    go_wp2_with fail
    go_ret
    exact ⟨_, okp, rfl, HF.out⟩
  · rw [if_neg k1]
    by_cases k2 : kind = 2
    · subst k2
      rw [if_pos rfl]
      have HS := hAck _ hbx n
      have HBX := Aside0.mk hbx
      clear hSend hAck hUp hDown hRes hFree hImg hbx
      go_enter Try.func31, Try.ntmps31
      go_wp2_with fail
      refine HS.out.mono ?_
      rintro e w4 ⟨v, okp, rfl, hF⟩
      have HF := Aside0.mk (hF.start HBX.out)
      clear hF
      go_wp2_with fail
      go_ret
      exact ⟨_, okp, rfl, HF.out⟩
    · rw [if_neg k2]
      by_cases k3 : kind = 3
      · subst k3
        rw [if_pos rfl]
        have HS := hUp _ hbx
        have HBX := Aside0.mk hbx
        clear hSend hAck hUp hDown hRes hFree hImg hbx
        go_enter Try.func31, Try.ntmps31
        go_wp2_with fail
        refine HS.out.mono ?_
        rintro e w4 ⟨v, okp, rfl, hF⟩
        have HF := Aside0.mk (hF.start HBX.out)
        clear hF
        go_wp2_with fail
        go_ret
        exact ⟨_, okp, rfl, HF.out⟩
      · rw [if_neg k3]
        by_cases k4 : kind = 4
        · subst k4
          rw [if_pos rfl]
          have HS := hDown _ hbx
          have HBX := Aside0.mk hbx
          clear hSend hAck hUp hDown hRes hFree hImg hbx
          go_enter Try.func31, Try.ntmps31
          go_wp2_with fail
          refine HS.out.mono ?_
          rintro e w4 ⟨rfl, hw, hf⟩
          have HF := Aside0.mk (FillAt.changed hw ((Fr.of_below ok HBX.out).trans hf (fun k _ hk => hk)) HC.out.2.1 HC.out.2.2 hbw)
          clear hw hf
          go_wp2_with fail
          go_ret
          exact ⟨_, _, rfl, HF.out⟩
        · rw [if_neg k4]
          by_cases k5 : kind = 5
          · subst k5
            rw [if_pos rfl]
            have HS := hRes _ hbx
            have HBX := Aside0.mk hbx
            clear hSend hAck hUp hDown hRes hFree hImg hbx
            go_enter Try.func31, Try.ntmps31
            go_wp2_with fail
            refine HS.out.mono ?_
            rintro e w4 ⟨rfl, hw, hf⟩
            have HF := Aside0.mk (FillAt.changed hw ((Fr.of_below ok HBX.out).trans hf (fun k _ hk => hk)) HC.out.2.1 HC.out.2.2 hbw)
            clear hw hf
            go_wp2_with fail
            go_ret
            exact ⟨_, _, rfl, HF.out⟩
          · rw [if_neg k5]
            by_cases k6 : kind = 6
            · subst k6
              rw [if_pos rfl]
              have HS := hFree _ hbx
              have HBX := Aside0.mk hbx
              clear hSend hAck hUp hDown hRes hFree hImg hbx
              go_enter Try.func31, Try.ntmps31
              go_wp2_with fail
              refine HS.out.mono ?_
              rintro e w4 ⟨rfl, hw, hf⟩
              have HF := Aside0.mk (FillAt.changed hw ((Fr.of_below ok HBX.out).trans hf (fun k _ hk => hk)) HC.out.2.1 HC.out.2.2 hbw)
              clear hw hf
              go_wp2_with fail
              go_ret
              exact ⟨_, _, rfl, HF.out⟩
            · rw [if_neg k6]
              by_cases k9 : kind = 9
              · subst k9
                rw [if_pos rfl]
                have HS := hImg _ hbx
                have HBX := Aside0.mk hbx
                have hfl := hi.ok.fl
                have hfield := field_flights
                clear hSend hUp hDown hRes hFree hImg hbx
                by_cases hfe : s.flights = []
                · rw [if_pos hfe]
                  have hl0 : s.flights.length = 0 := by rw [hfe]; rfl
                  clear hAck hfe
                  go_enter Try.func31, Try.ntmps31
                  go_wp2_with fail
                  refine HS.out.mono ?_
                  rintro e w4 ⟨vF, vQ, rfl, hRF, hRQ, hb⟩
                  obtain ⟨AF, cF, hvF⟩ := Kd.R_slice hRF
                  obtain ⟨AQ, cQ, hvQ⟩ := Kd.R_slice hRQ
                  subst hvF hvQ
                  have HF := Aside0.mk (FillAt.quiet HC.out.1 (HBX.out.trans (hb.mono HBX.out.size)) HC.out.2.1 hbw)
                  clear hRF hRQ hb
                  rw [hl0]
                  go_wp2_with fail
                  go_ret
                  exact ⟨_, _, rfl, HF.out⟩
                · rw [if_neg hfe]
                  have hlp : 0 < s.flights.length := List.length_pos_iff.2 hfe
                  have hd1 : decide ((s.flights.length : Int) > 0) = true := decide_eq_true (by omega)
                  have hd2 : decide (0 < s.flights.length) = true := decide_eq_true hlp
                  clear hfe
                  go_enter Try.func31, Try.ntmps31
                  go_wp2_with fail
                  refine HS.out.mono ?_
                  rintro e w4 ⟨vF, vQ, rfl, hRF, hRQ, hb⟩
                  obtain ⟨AF, cF, hvF⟩ := Kd.R_slice hRF
                  obtain ⟨AQ, cQ, hvQ⟩ := Kd.R_slice hRQ
                  subst hvF hvQ
                  have HB4 := Aside0.mk (HBX.out.trans (hb.mono HBX.out.size))
                  have HRF := Aside0.mk hRF
                  have HOP := Aside0.mk ((hb.block w.heap.size (by simp)).trans (alloc_new w _))
                  clear hRF hRQ hb
                  go_wp2_with fail
                  have o6 : w4.cell? ⟨w.heap.size, 6, none⟩ = some (.int .i64 a) := blk_cell HOP.out 6
                  have o7 : w4.cell? ⟨w.heap.size, 7, none⟩ = some (.int .i64 n) := blk_cell HOP.out 7
                  have hfe : ¬ s.flights = [] := fun e => by rw [e] at hlp; simp at hlp
                  obtain ⟨hp1, hp2⟩ := pickI_eq n s.flights.length hlp hfl
                  obtain ⟨i, hi2⟩ : ∃ i, pickI n s.flights.length = i := ⟨_, rfl⟩
                  rw [hi2] at hp1 hp2
                  obtain ⟨ad, Aq, cq, hAd, f0, _⟩ := flt_at (Kd.R_reads' HRF.out).2.2 i hp2
                  subst hAd
                  have hi1 : (i : Int) < s.flights.length := by omega
                  have hi0 : (0 : Int) ≤ (i : Int) := by omega
                  have HA := fun id => hAck w4.drew (HB4.out.trans ((below_drew (Below.refl w4.heap.size w4)).mono HB4.out.size)) id
                  have HPI := Aside0.mk hi2
                  obtain ⟨fid, hfid⟩ : ∃ fid, (s.flights.getD i noFlt).id = fid := ⟨_, rfl⟩
                  rw [hfid] at f0
                  have HFI := Aside0.mk hfid
                  clear hi2 hp2 hAck hfid
                  go_region_law (go_simp; go_at_call 34; refine (HA fid).out.mono ?_; rintro e w5 ⟨v, okp, rfl, hF⟩; have HF := Aside0.mk (hF.start (HB4.out.trans ((below_drew (Below.refl w4.heap.size w4)).mono HB4.out.size))); clear hF)
                  all_goals
                    go_wp2_with fail
                    go_ret
                    refine ⟨_, okp, rfl, ?_⟩
                    rw [HPI.out, HFI.out]
                    exact HF.out
              · rw [if_neg k9]
                have j1 : (kind == 1) = false := by simpa using k1
                have j2 : (kind == 2) = false := by simpa using k2
                have j3 : (kind == 3) = false := by simpa using k3
                have j4 : (kind == 4) = false := by simpa using k4
                have j5 : (kind == 5) = false := by simpa using k5
                have j6 : (kind == 6) = false := by simpa using k6
                have j9 : (kind == 9) = false := by simpa using k9
                have HF := Aside0.mk (FillAt.quiet HC.out.1 hbx HC.out.2.1 hbw)
                clear hSend hAck hUp hDown hRes hFree hImg hbx k1 k2 k3 k4 k5 k6 k9
                go_enter Try.func31, Try.ntmps31
                go_wp2_with fail
                go_ret
                exact ⟨_, _, rfl, HF.out⟩
end Go.Proofs.Ytjccmlmkcjmicaa.Win

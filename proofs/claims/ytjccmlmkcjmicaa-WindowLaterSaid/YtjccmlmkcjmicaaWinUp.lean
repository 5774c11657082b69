/- The walk of a window's Up. No statement of the program. -/
import Derived.Test.YtjccmlmkcjmicaaWinAck
namespace Go.Proofs.Ytjccmlmkcjmicaa.Win
open Go Go.RowKit Go.Maps Go.MapKept Go.ChangeMaps Go.Proofs.YtjccmlmkcjmicaaW.PrintWords Go.Proofs.Ytjccmlmkcjmicaa.Kinds
set_option linter.unusedVariables false
set_option linter.unusedSimpArgs false

/-- Up: the packets, the window behind it -/
def upF (s : WS) : List Pkt × WS := (s.flights.map (fun f => pktOf f true) ++ (fillF { s with online := true }).1, (fillF { s with online := true }).2)

theorem fillL_len : ∀ (ws : List Msg) (s : WS), (fillL ws s).1.length ≤ ws.length
  | [], s => by simp [fillL]
  | m :: r, s => by
    rw [fillL]
    split
    · have := fillL_len r (launchS { s with waits := r } m)
      simp only [List.length_cons]
      omega
    · simp
theorem fillF_len (s : WS) (h : s.waits.length ≤ 65536) : (fillF s).1.length ≤ 65536 := Nat.le_trans (fillL_len s.waits s) h
/-- a packet that was made in new memory goes behind the packets -/
theorem FillAt.add {w w0 X X1 : World} {base B : Nat} {ok okp : Nat → Prop} {l : Value} {ps : List Pkt} {s1 : WS} (h : FillAt w base ok B w0 l ps okp s1 X) (hok : ∀ k, ok k → k < w.heap.size) (hb : Below X.heap.size X X1) (hbw : base ≤ w.heap.size) :
    kPkt.R 75 X1 w.heap.size okp l ps ∧ (∀ (X2 : World) v1 qs, kPkt.R 75 X2 w.heap.size (fun k => okp k ∨ (X.heap.size ≤ k ∧ k < X1.heap.size) ∨ X1.heap.size ≤ k) v1 qs → X1.grownBy X2 l.ownBlock →
      FillAt w base ok B w0 v1 qs (fun k => (okp k ∨ (X.heap.size ≤ k ∧ k < X1.heap.size) ∨ X1.heap.size ≤ k) ∧ w.heap.size ≤ k ∧ k < X2.heap.size) s1 X2) := by
  have hs := h.fr.size
  have hw : WinAt' X1 base (fun k => okN (fun k => okN ok w X k ∧ ¬ okp k) X X1 k ∧ ¬ (X.heap.size ≤ k ∧ k < X1.heap.size)) B s1 := (h.win.bound.below hb).mono (fun k hk => ⟨.inl hk.1, fun e => by omega⟩)
  refine ⟨Kd.R_below h.pk hb, fun X2 => (h.push hok (X2 := X2) (okp2 := fun k => X.heap.size ≤ k ∧ k < X1.heap.size) (fun k hk => hk) hw (Fr.of_below _ hb) (h.bel.trans (hb.mono (Nat.le_trans hbw hs))) hbw).2⟩

set_option maxRecDepth 100000 in
set_option maxHeartbeats 2000000 in
theorem up_any {w : World} {base B : Nat} {ok : Nat → Prop} {s : WS} (h : WinAt' w base ok B s) (hok : WOk s) (hpl : WPl s) (w0 : World) (hwb : Below base w0 w) (hbw : base ≤ w.heap.size) :
    Calls Try.prog 32 #[.pointer (some ⟨B, 0, none⟩)] w fun e w' => ∃ (v : Value) (okp : Nat → Prop), e = .returned v ∧ FillAt w base ok B w0 v (upF s).1 okp (upF s).2 w' := by
  obtain ⟨okb, hokb, hokbase, hokok, vf, vw, bm, hW⟩ := h.bound2
  obtain ⟨_, _, _, c3, _, _, c6, cf⟩ := hW.cells
  have cf6 := cf 6
  have hW1 := hW.set (s' := { s with online := true }) 6 (.bool true) (by simp [winCells]) rfl rfl rfl
  have hF1 : Fr okb w (w.setCell ⟨B, 6, none⟩ (.bool true)) := (Fr.refl okb w).setCell (p := ⟨B, 6, none⟩) (fun _ => hW.okB) _
  have H := Aside0.mk (FillAt.mk (w := w) (base := base) (ok := okb) (B := B) (w0 := w0) (l := .slice none 0 0) (ps := []) (okp := fun _ => False) (s1 := { s with online := true }) (X := w.setCell ⟨B, 6, none⟩ (.bool true)) (Kd.R_nil _ _ _ _ _) (fun k hk => hk.elim) (WinAt'.mono ⟨_, _, _, hW1⟩ (fun k hk => ⟨.inl hk, fun e => e⟩)) hF1 (hF1.below hwb hokbase hbw))
  have HW := Aside0.mk hW1
  have hza : (w.setCell ⟨B, 6, none⟩ (.bool true)).heap.size = w.heap.size := by simp
  have HZ := Aside0.mk hza
  clear hza
  have c3' : (w.setCell ⟨B, 6, none⟩ (.bool true)).cell? ⟨B, 3, none⟩ = some vf := blk_cell hW1.blk 3
  obtain ⟨Af, cf', hef⟩ := Kd.R_slice hW.flights
  subst hef
  have HOK := Aside0.mk hok
  have HPL := Aside0.mk hpl
  have hfl := hok.fl
  clear h hok hpl hW hW1 hF1 cf c3
  go_enter Try.func32, Try.ntmps32
  go_wp2_with fail
  generalize w.setCell ⟨B, 6, none⟩ (.bool true) = wa at *
  go_loopg [3, 14] s.flights.length (fun q l i wr => ∃ (k : Nat) (okp : Nat → Prop), k + q = s.flights.length ∧ i = .int .i64 (k : Int) ∧ Aside0 (FillAt w base okb B w0 l ((s.flights.take k).map (fun f => pktOf f true)) okp { s with online := true } wr) ∧ Aside0 (Below wa.heap.size wa wr))
  case atStart => exact ⟨0, fun _ => False, by omega, rfl, H, ⟨Below.refl _ _⟩⟩
  case round =>
    clear H c3' c6 cf6
    obtain ⟨k, okp, hk, rfl, HF, HB⟩ := hrel
    have HK := Aside0.mk hk
    clear hk
    by_cases hlt : k < s.flights.length
    · have hk1 : (k : Int) < s.flights.length := by omega
      have hC := (Kd.R_reads' (HW.out.below HB.out).flights).2.2
      obtain ⟨ad, Ap, cp, hAd, f0, f1, f2, f3, f4, f5, _, hpC⟩ := flt_at hC k hlt
      subst hAd
      have hsh : (s.flights.getD k noFlt).msg.payload.length ≤ 1099511627776 := by
        rw [List.getD_eq_getElem?_getD, List.getElem?_eq_getElem hlt]
        exact HPL.out.flights _ (List.getElem_mem hlt)
      obtain ⟨f, hf⟩ : ∃ f, s.flights.getD k noFlt = f := ⟨_, rfl⟩
      rw [hf] at f0 f1 f2 f3 f4 f5 hsh hpC
      have HPk := fun o => Aside0.mk (packet_any f Ap cp true (wr.alloc o) (Kd.C_alloc hpC o) hsh)
      have HFa := fun o => Aside0.mk (HF.out.below (Nat.le_trans hbw HF.out.fr.size) ((Below.refl wr.heap.size wr).alloc (Nat.le_refl _) o))
      have HKL := Aside0.mk hlt
      have HFK := Aside0.mk hf
      clear hC hpC hsh hf hlt
      obtain ⟨fid, ⟨t, pp, q, rt⟩, rel⟩ := f
      dsimp only at *
      go_wp2_with fail
      refine (HPk _).out.mono ?_
      rintro e w4 ⟨cs, rfl, hM, hb4⟩
      have hlc : cs.length = 25 := kPkt.K_len (kPkt.K_of_M hM)
      have hF4 := HFa (.cells #[.int .i64 fid, .string t, .slice Ap pp.length cp, .int .i64 q, .bool rt, .bool rel] 112)
      have hadd := hF4.out.add hokb hb4 hbw
      have hws : w.heap.size ≤ w4.heap.size := Nat.le_trans hF4.out.fr.size hb4.size
      have hnew : ∀ k, okp k → k < wr.heap.size := fun k hk => (HF.out.new k hk).2
      have hM4 : kPkt.M w4 w.heap.size (fun k => (wr.alloc (.cells #[.int .i64 fid, .string t, .slice Ap pp.length cp, .int .i64 q, .bool rt, .bool rel] 112)).heap.size ≤ k ∧ k < w4.heap.size) (pktOf ⟨fid, ⟨t, pp, q, rt⟩, rel⟩ true) cs := kPkt.M_lower hF4.out.fr.size (kPkt.M_mono (fun k hk => ⟨hk.1, hk.2.2.1⟩) (kPkt.M_bound hM))
      have hb5 : Below wa.heap.size wa w4 := HB.out.trans ((((Below.refl wr.heap.size wr).alloc (Nat.le_refl _) (.cells #[.int .i64 fid, .string t, .slice Ap pp.length cp, .int .i64 q, .bool rt, .bool rel] 112)).trans (hb4.mono (by simp))).mono HB.out.size)
      obtain ⟨S, hS⟩ : ∃ S, (wr.alloc (.cells #[.int .i64 fid, .string t, .slice Ap pp.length cp, .int .i64 q, .bool rt, .bool rel] 112)).heap.size = S := ⟨_, rfl⟩
      rw [hS] at hadd hM4
      have HAD := Aside0.mk hadd
      have HM4 := Aside0.mk hM4
      have HB5 := Aside0.mk hb5
      have HLEN := Aside0.mk hlc
      have HOL := Aside0.mk HF.out.pk.1
      have HNW := Aside0.mk hnew
      have HNW2 := Aside0.mk HF.out.new
      have hszr : S = wr.heap.size + 1 := by rw [← hS]; simp
      have HSZ := Aside0.mk hszr
      clear hlc hadd hM4 hM hb4 hb5 hF4 hnew HPk HFa f0 f1 f2 f3 f4 f5 hszr hS
      go_wp2_with (first | (refine wpList_buildOne rfl 65 75 _ rfl cs rfl (.agg noCells) 25 328 Try.underlying65 infoPkt rfl HLEN.out (by decide) (by decide) ?_) | (at_builtin; refine Kd.R_append kPkt (w0 := w4) (W := w4) w.heap.size rfl (.tmp 18) (.tmp 21) 65 75 (.agg noCells) 328 rfl Try.underlying65 infoPkt rfl (by decide) (by omega) _ ((s.flights.take k).map (fun f => pktOf f true)) (pktOf ⟨fid, ⟨t, pp, q, rt⟩, rel⟩ true) cs (fun k => okp k ∨ (S ≤ k ∧ k < w4.heap.size) ∨ w4.heap.size ≤ k) (fun k => S ≤ k ∧ k < w4.heap.size) rfl rfl HM4.out ?okp ?fresh (Kd.R_mono HAD.out.1 (fun k hk => .inl hk)) (Below.refl _ _) hws ?hl ?_))
      case okp => exact fun k hk hk2 => ⟨.inr (.inl ⟨hk, hk2⟩), fun e => by have h1 := HNW.out k (HOL.out k e.symm); have h2 := HSZ.out; omega⟩
      case fresh => exact fun k hk => .inr (.inr hk)
      case hl => simp; have := HKL.out; omega
      intro v1 w5 hR hb6 hg5 hat5
      have HF5 := Aside0.mk (HAD.out.2 w5 v1 _ hR hg5)
      have HB6 := Aside0.mk (show Below wa.heap.size wa w5 from HB5.out.grown hg5 (by have := HB5.out.size; omega) (fun k hk => by have h1 := (HNW2.out k (HOL.out k hk)).1; have h2 := HZ.out; omega))
      clear hR hb6 hg5 hat5
      go_wp2_with fail
      go_roundg (s.flights.length - (k + 1))
      case measure => have := HK.out; have := HKL.out; omega
      case rel =>
        have e : (s.flights.take (k + 1)).map (fun f => pktOf f true) = (s.flights.take k).map (fun f => pktOf f true) ++ [pktOf ⟨fid, ⟨t, pp, q, rt⟩, rel⟩ true] := by
          have hk := HKL.out
          have hf := HFK.out
          rw [List.getD_eq_getElem?_getD, List.getElem?_eq_getElem hk] at hf
          rw [List.take_succ_eq_append_getElem hk, List.map_append, List.map_singleton]
          rw [show s.flights[k] = ⟨fid, ⟨t, pp, q, rt⟩, rel⟩ from hf]
        have h := HF5.out
        rw [← List.map_take, ← e] at h
        exact ⟨k + 1, _, by have := HKL.out; omega, by go_num, ⟨h⟩, HB6⟩
    · have hk1 : decide ((k : Int) < s.flights.length) = false := decide_eq_false (by omega)
      have hk2 : decide (k < s.flights.length) = false := decide_eq_false hlt
      have hke : s.flights.take k = s.flights := List.take_of_length_le (by omega)
      rw [hke] at HF
      obtain ⟨Al, cl, hel⟩ := Kd.R_slice HF.out.pk
      subst hel
      rw [List.length_map] at HF
      have HFi := Aside0.mk (fill_call HF.out.win (s := { s with online := true }) ⟨HOK.out.w1, HOK.out.w2, HOK.out.q1, HOK.out.q2, HOK.out.l1, HOK.out.l2, HOK.out.fl, HOK.out.wl⟩ ⟨HPL.out.waits, HPL.out.flights⟩ w0 HF.out.bel (Nat.le_trans hbw HF.out.fr.size))
      clear hlt hke
      go_wp2_with fail
      refine HFi.out.mono ?_
      rintro e w4 ⟨vq, okp2, rfl, hF⟩
      have hpu := fun X2 => HF.out.push hokb (X2 := X2) hF.new hF.win hF.fr hF.bel hbw
      obtain ⟨hok2, hrow⟩ := hF.pk
      obtain ⟨A2, c2, hv2, hc2, hRR⟩ := OwnRow.reads hrow
      subst hv2
      have HPU := Aside0.mk hpu
      have HF4 := Aside0.mk hF
      have HRR := Aside0.mk hRR
      have HOL := Aside0.mk HF.out.pk.1
      have HNW := Aside0.mk HF.out.new
      have HSW := Aside0.mk HF.out.fr.size
      have hws : w.heap.size ≤ w4.heap.size := Nat.le_trans HF.out.fr.size hF.fr.size
      have HLQ := Aside0.mk (fillF_len { s with online := true } HOK.out.wl)
      clear hpu hok2 hrow hRR hF HFi hc2
      go_wp2_with (at_builtin; refine Kd.R_append_rows kPkt (Rr := kPkt.M w4 wr.heap.size (fun k => okp2 k ∧ some k ≠ (Value.slice A2 (fillF { s with online := true }).1.length c2).ownBlock)) (w0 := w4) (W := w4) w.heap.size rfl (.tmp 24) (.tmp 26) 65 75 (.agg noCells) 328 rfl Try.underlying65 infoPkt rfl (by decide) (by omega) (.slice Al s.flights.length cl) (s.flights.map (fun f => pktOf f true)) (fillF { s with online := true }).1 A2 (fillF { s with online := true }).1.length c2 (fun k => okp k ∨ okp2 k ∨ w4.heap.size ≤ k) okp2 rfl rfl ?HO HRR.out ?hKM ?hokp ?hfresh (Below.refl _ _) hws ?hl ?_)
      case HO => exact Kd.R_mono (HPU.out w4).1 (fun k hk => .inl hk)
      case hKM => exact fun x cs hM => kPkt.M_mono (fun k hk => hk.1) (kPkt.M_lower HSW.out hM)
      case hokp => exact fun k hk => ⟨.inr (.inl hk), fun e => by have h1 := (HNW.out k (HOL.out k e.symm)).2; have h2 := (HF4.out.new k hk).1; omega⟩
      case hfresh => exact fun k hk => .inr (.inr hk)
      case hl => have := HLQ.out; simp only [List.length_map]; omega
      intro v1 w5 hR hb6 hg5 hat5
      have HF5 := Aside0.mk ((HPU.out w5).2 v1 _ hR hg5)
      clear hR hb6 hg5 hat5
      go_wp2_with fail
      go_ret
      exact ⟨_, _, rfl, HF5.out.mono hokok⟩
end Go.Proofs.Ytjccmlmkcjmicaa.Win

/- The walk of a window's fill. No statement of the program. -/
import Derived.Test.YtjccmlmkcjmicaaWinLaunch
import Derived.Deep.LoopGhost
import Derived.Great.BuildSlice
namespace Go.Proofs.Ytjccmlmkcjmicaa.Win
open Go Go.RowKit Go.Maps Go.MapKept Go.ChangeMaps Go.Proofs.YtjccmlmkcjmicaaW.PrintWords Go.Proofs.Ytjccmlmkcjmicaa.Kinds
set_option linter.unusedVariables false
set_option linter.unusedSimpArgs false

def nextN (s : WS) : Int := numL s.flights s.D 65535 s.last
def launchS (s : WS) (m : Msg) : WS := { s with last := nextN s, flights := s.flights ++ [⟨nextN s, m, false⟩] }
def launchP (s : WS) (m : Msg) : Pkt := pktOf ⟨nextN s, m, false⟩ false
/-- what waits is launched, as there is room: the packets, the window behind it -/
def fillL : List Msg → WS → List Pkt × WS
  | [], s => ([], s)
  | m :: r, s => if s.online = true ∧ (s.flights.length : Int) < s.window then (launchP s m :: (fillL r (launchS { s with waits := r } m)).1, (fillL r (launchS { s with waits := r } m)).2) else ([], s)
def fillF (s : WS) : List Pkt × WS := fillL s.waits s

/-- no payload is longer than a row can be -/
def Short (m : Msg) : Prop := m.payload.length ≤ 1099511627776
structure WPl (s : WS) : Prop where
  waits : ∀ m ∈ s.waits, Short m
  flights : ∀ f ∈ s.flights, Short f.msg
theorem nextN_range {s : WS} (h : WOk s) : 1 ≤ nextN s ∧ nextN s ≤ 65535 := by
  have := numL_range s.flights s.D 65535 s.last h.l1 h.l2
  exact ⟨this.2.2 (by omega), this.2.1⟩
theorem launchS_ok {s : WS} (h : WOk s) (hf : s.flights.length < 65536) (m : Msg) : WOk (launchS s m) := by
  have := nextN_range h
  exact ⟨h.w1, h.w2, h.q1, h.q2, by show 0 ≤ nextN s; omega, this.2, by simp [launchS]; omega, h.wl⟩
theorem launchS_pl {s : WS} (h : WPl s) (m : Msg) (hm : Short m) : WPl (launchS s m) :=
  ⟨h.waits, fun f hf => by
    have hf' : f ∈ s.flights ++ [⟨nextN s, m, false⟩] := hf
    rcases List.mem_append.1 hf' with h1 | h1
    · exact h.flights f h1
    · rw [List.mem_singleton] at h1; subst h1; exact hm⟩
theorem fillF_step (s : WS) (m : Msg) (r : List Msg) (hw : s.waits = m :: r) (h : s.online = true ∧ (s.flights.length : Int) < s.window) :
    fillF s = (launchP s m :: (fillF (launchS { s with waits := r } m)).1, (fillF (launchS { s with waits := r } m)).2) := by
  unfold fillF
  rw [hw, fillL, if_pos h]
  rfl
theorem fillF_end (s : WS) (h : ¬ (s.online = true ∧ (s.flights.length : Int) < s.window ∧ s.waits ≠ [])) : fillF s = ([], s) := by
  unfold fillF
  obtain ⟨a, b, c, d, w, f, g⟩ := s
  cases w with
  | nil => rfl
  | cons m r =>
    rw [fillL, if_neg]
    intro hh
    exact h ⟨hh.1, hh.2, by simp⟩

theorem msg_at {w : World} {A : Option Addr} {n : Nat} {ms : List Msg} (h : kMsg.C w A n ms) (k : Nat) (hk : k < n) : ∃ ad Ap cp, A = some ad ∧
    w.cell? (ad.add (k * 4)) = some (.string (ms.getD k noMsg).topic) ∧ w.cell? ⟨(ad.add (k * 4)).block, (ad.add (k * 4)).off + 1, none⟩ = some (.slice Ap (ms.getD k noMsg).payload.length cp) ∧
    w.cell? ⟨(ad.add (k * 4)).block, (ad.add (k * 4)).off + 2, none⟩ = some (.int .i64 (ms.getD k noMsg).qos) ∧ w.cell? ⟨(ad.add (k * 4)).block, (ad.add (k * 4)).off + 3, none⟩ = some (.bool (ms.getD k noMsg).retain) ∧
    (ms.getD k noMsg).payload.length ≤ cp ∧ (Kd.int .u8).C w Ap (ms.getD k noMsg).payload.length (ms.getD k noMsg).payload := by
  obtain ⟨ad, c, e, _, hK, hc0⟩ := Kd.C_get h noMsg (k : Int) (by omega) (by omega)
  simp only [Int.toNat_natCast] at hK hc0
  have hc : ∀ j u, c[j]? = some u → w.cell? (ad.add (k * 4 + j)) = some u := hc0
  obtain ⟨Ap, cp, rfl, l3, g3⟩ := msg_K hK
  exact ⟨ad, Ap, cp, e, hc 0 _ rfl, by rw [← add_field _ _ 1 (by omega)]; exact hc 1 _ rfl, by rw [← add_field _ _ 2 (by omega)]; exact hc 2 _ rfl, by rw [← add_field _ _ 3 (by omega)]; exact hc 3 _ rfl, l3, g3⟩
/-- the queue's cell is written: what waits is another row of the same block -/
theorem WinAt.setWaits {w : World} {base B bm : Nat} {ok : Nat → Prop} {s : WS} {vf vw : Value} (h : WinAt w base ok B s vf vw bm) {v1 : Value} {ws : List Msg} (hq : kMsg.Q 64 w base ok v1 ws) : WinAt (w.setCell ⟨B, 4, none⟩ v1) base ok B { s with waits := ws } vf v1 bm := by
  refine ⟨h.okB, h.okM, h.baseB, h.baseM, ?_, Kd.R_set h.flights h.blk (by decide) 4 v1, Kd.Q_set hq h.blk (by decide) 4 v1, h.map.setCell (a := ⟨B, 4, none⟩) (fun e => ?_) v1⟩
  · rw [blk_set h.blk 4 v1]; simp [winCells]
  · obtain ⟨es, clock, hb, _⟩ := h.map
    have e' : bm = B := e
    subst e'
    rw [h.blk] at hb
    cases hb

/-- launch, said with the model's words -/
theorem launch_call {w : World} {base B : Nat} {ok : Nat → Prop} {s : WS} (h : WinAt' w base ok B s) (hok : WOk s) (m : Msg) (A : Option Addr) (c : Nat) (w0 : World) (hwb : Below base w0 w) (hbw : base ≤ w.heap.size)
    (hr : (Kd.int .u8).C w A m.payload.length m.payload) (hml : Short m) (hfl : s.flights.length < 65536) :
    Calls Try.prog 64 #[.pointer (some ⟨B, 0, none⟩), .agg #[.string m.topic, .slice A m.payload.length c, .int .i64 m.qos, .bool m.retain]] w fun e w' => ∃ (cs : List Value) (okp : Nat → Prop), e = .returned (.agg cs.toArray) ∧
      kPkt.M w' w.heap.size okp (launchP s m) cs ∧ (∀ k, okp k → w.heap.size ≤ k ∧ k < w'.heap.size) ∧
      WinAt' w' base (fun k => okN ok w w' k ∧ ¬ okp k) B (launchS s m) ∧ Fr ok w w' ∧ Below base w0 w' := launch_any h hok m A c w0 hwb hbw hr hml hfl

/-- in fill's loop: the packets that were made lie apart from the window -/
structure FillAt (w : World) (base : Nat) (ok : Nat → Prop) (B : Nat) (w0 : World) (l : Value) (ps : List Pkt) (okp : Nat → Prop) (s1 : WS) (X : World) : Prop where
  pk : kPkt.R 75 X w.heap.size okp l ps
  new : ∀ k, okp k → w.heap.size ≤ k ∧ k < X.heap.size
  win : WinAt' X base (fun k => okN ok w X k ∧ ¬ okp k) B s1
  fr : Fr ok w X
  bel : Below base w0 X
section
variable {w w0 X X1 : World} {base B : Nat} {ok okp : Nat → Prop} {l : Value} {ps : List Pkt} {s1 : WS}
theorem okN_mono {k : Nat} (h : okN ok w X k) (hs : X.heap.size ≤ X1.heap.size) : okN ok w X1 k := by
  rcases h with h | h
  · exact .inl h
  · exact .inr ⟨h.1, by omega⟩
theorem FillAt.below (h : FillAt w base ok B w0 l ps okp s1 X) (hbx : base ≤ X.heap.size) (hb : Below X.heap.size X X1) : FillAt w base ok B w0 l ps okp s1 X1 :=
  ⟨Kd.R_below h.pk hb, fun k hk => ⟨(h.new k hk).1, Nat.lt_of_lt_of_le (h.new k hk).2 hb.size⟩, (h.win.below hb).mono (fun k hk => ⟨okN_mono hk.1 hb.size, hk.2⟩), h.fr.trans (Fr.of_below (fun _ => False) hb) (fun _ _ e => e.elim), h.bel.trans (hb.mono hbx)⟩
theorem FillAt.pop (h : FillAt w base ok B w0 l ps okp s1 X) {v1 : Value} {r : List Msg} {vf vw : Value} {bm : Nat} (hX : WinAt X base (fun k => okN ok w X k ∧ ¬ okp k) B s1 vf vw bm) (hok : ∀ k, ok k → k < w.heap.size)
    (hq : kMsg.Q 64 X base (fun k => okN ok w X k ∧ ¬ okp k) v1 r) : FillAt w base ok B w0 l ps okp { s1 with waits := r } (X.setCell ⟨B, 4, none⟩ v1) := by
  have hs : (X.setCell ⟨B, 4, none⟩ v1).heap.size = X.heap.size := by simp
  have hw := hX.setWaits hq
  refine ⟨Kd.R_step h.pk (fun k hk _ => Below.heap_setCell X ⟨B, 4, none⟩ v1 k (fun e => ?_)), fun k hk => by rw [hs]; exact h.new k hk, ⟨vf, v1, bm, ?_⟩, h.fr.setCell (fun hB => ?_) _, h.bel.setCell hX.baseB _⟩
  · have e' : k = B := e
    subst e'
    exact hX.okB.2 hk
  · have e : (fun k => okN ok w (X.setCell ⟨B, 4, none⟩ v1) k ∧ ¬ okp k) = (fun k => okN ok w X k ∧ ¬ okp k) := by funext k; simp only [okN, hs]
    rw [e]
    exact hw
  · rcases hX.okB.1 with h1 | h1
    · exact h1
    · have hB' : B < w.heap.size := hB
      omega
theorem FillAt.push (h : FillAt w base ok B w0 l ps okp s1 X) (hok : ∀ k, ok k → k < w.heap.size) {s2 : WS} {okp2 : Nat → Prop} {X2 : World} (hn : ∀ k, okp2 k → X.heap.size ≤ k ∧ k < X1.heap.size)
    (hw : WinAt' X1 base (fun k => okN (fun k => okN ok w X k ∧ ¬ okp k) X X1 k ∧ ¬ okp2 k) B s2) (hf : Fr (fun k => okN ok w X k ∧ ¬ okp k) X X1) (hb : Below base w0 X1) (hbw : base ≤ w.heap.size) :
    kPkt.R 75 X1 w.heap.size okp l ps ∧ (∀ v1 qs, kPkt.R 75 X2 w.heap.size (fun k => okp k ∨ okp2 k ∨ X1.heap.size ≤ k) v1 qs → X1.grownBy X2 l.ownBlock →
      FillAt w base ok B w0 v1 qs (fun k => (okp k ∨ okp2 k ∨ X1.heap.size ≤ k) ∧ w.heap.size ≤ k ∧ k < X2.heap.size) s2 X2) := by
  have hwX := h.fr.size
  have hs1 := hf.size
  have hpk := Kd.R_step h.pk (w1 := X1) (fun k hk hl => hf.block k hl (fun hp => hp.2 hk))
  refine ⟨hpk, fun v1 qs hR hg => ?_⟩
  have hs2 := hg.size
  have hF2 : Fr (fun k => l.ownBlock = some k) X1 X2 := (Fr.refl (fun k => l.ownBlock = some k) X1).grown hg (fun k _ e => e)
  refine ⟨Kd.R_mono (Kd.R_bound hR) (fun k hk => ⟨hk.1, hk.2.1, hk.2.2.1⟩), fun k hk => hk.2, ((hw.bound).fr hF2 (fun k hk e => ?_)).mono (fun k hk => ⟨?_, ?_⟩), (h.fr.trans hf (fun k hk hp => ?_)).trans hF2 (fun k hk e => ?_), ?_⟩
  · have ho := h.pk.1 k e
    rcases hk.1.1 with h1 | h1
    · exact h1.2 ho
    · have := (h.new k ho).2
      omega
  · rcases hk.1.1 with h1 | h1
    · rcases h1.1 with h2 | h2
      · exact .inl h2
      · exact .inr ⟨h2.1, by omega⟩
    · exact .inr ⟨by omega, by omega⟩
  · rintro ⟨hc, h3, h4⟩
    rcases hc with hc | hc | hc
    · rcases hk.1.1 with h1 | h1
      · exact h1.2 hc
      · have := (h.new k hc).2
        omega
    · exact hk.1.2 hc
    · have := hk.2
      omega
  · rcases hp.1 with h1 | h1
    · exact h1
    · omega
  · have := (h.new k (h.pk.1 k e)).1
    omega
  · exact hb.grown hg (by omega) (fun k e => Nat.le_trans hbw (h.new k (h.pk.1 k e)).1)
end

/-- a slice literal of one struct, whose cells are a list that nobody opens -/
theorem wpList_buildOne {P : Program} {ops : Array Oper} {rest : List Oper} {o : Oper} {a : Act} {w : World} {Q : Exit → Act → World → Prop} (hg : o.guard = none) (t e : TypeId) (x : Operand) (ho : o.op = .buildSlice t 1 #[(0, x)])
    (cs : List Value) (hx : a.eval x = .agg cs.toArray) (z : Value) (sz bytes : Nat) (hu : P.underlying t = some (.slice e)) (hinfo : (P.info? e).map (fun i => (i.zero, i.size, i.bytes)) = some (some z, sz, bytes)) (hz : z.cells.size = sz) (hl : cs.length = sz) (h0 : 0 < sz) (hsm : sz ≤ 2 ^ 24)
    (h : wpList P ops Q rest (a.put o.dst (.slice (some ⟨w.heap.size, 0, none⟩) 1 1)) (w.alloc (.cells cs.toArray e))) : wpList P ops Q (o :: rest) a w := by
  obtain ⟨ie, hi, hzz⟩ := Option.map_eq_some_iff.1 hinfo
  simp only [Prod.mk.injEq] at hzz
  obtain ⟨hz0, hz1, hz2⟩ := hzz
  refine wpList_buildSlice hg t e 1 _ ho cs.toArray ie z hu hi hz0 (by rw [hz1]; omega) (by rw [hz1]; omega) ?_ h
  have hf := Great.fill_whole (s := ie.size) (by omega) [.agg cs.toArray] ((Array.range (1 * ie.size)).map (z.cells[· % z.cells.size]!)) (by simp [Value.cells, hl, hz1]) (by simp)
  simpa [hx, Value.cells] using hf
theorem infoPkt : (Try.prog.info? 75).map (fun i => (i.zero, i.size, i.bytes)) = some (some (.agg noCells), 25, 328) := by kernel_rfl

set_option maxRecDepth 100000 in
set_option maxHeartbeats 2000000 in
theorem fill_any {w : World} {base B : Nat} {ok : Nat → Prop} {s : WS} (h : WinAt' w base ok B s) (hok : WOk s) (hpl : WPl s) (w0 : World) (hwb : Below base w0 w) (hbw : base ≤ w.heap.size) :
    Calls Try.prog 70 #[.pointer (some ⟨B, 0, none⟩)] w fun e w' => ∃ (v : Value) (okp : Nat → Prop), e = .returned v ∧
      kPkt.R 75 w' w.heap.size okp v (fillF s).1 ∧ (∀ k, okp k → w.heap.size ≤ k ∧ k < w'.heap.size) ∧
      WinAt' w' base (fun k => okN ok w w' k ∧ ¬ okp k) B (fillF s).2 ∧ Fr ok w w' ∧ Below base w0 w' := by
  obtain ⟨okb, hokb, hokbase, hokok, h'⟩ := h.bound2
  have H := Aside0.mk (FillAt.mk (w := w) (base := base) (ok := okb) (B := B) (w0 := w0) (l := .slice none 0 0) (ps := []) (okp := fun _ => False) (s1 := s) (X := w) (Kd.R_nil _ _ _ _ _) (fun k hk => hk.elim) (h'.mono (fun k hk => ⟨.inl hk, fun e => e⟩)) (Fr.refl _ _) hwb)
  have HOK := Aside0.mk hok
  have HPL := Aside0.mk hpl
  clear h hok hpl h'
  go_enter Try.func70, Try.ntmps70
  go_wp2_with fail
  go_loopg [3] s.waits.length (fun q l wr => ∃ (s1 : WS) (ps : List Pkt) (okp : Nat → Prop), s1.waits.length = q ∧ Aside0 (WOk s1 ∧ WPl s1 ∧ ps ++ (fillF s1).1 = (fillF s).1 ∧ (fillF s1).2 = (fillF s).2) ∧ Aside0 (ps.length + q = s.waits.length) ∧ Aside0 (FillAt w base okb B w0 l ps okp s1 wr))
  case atStart =>
    exact ⟨s, [], fun _ => False, rfl, ⟨HOK.out, HPL.out, rfl, rfl⟩, ⟨by simp⟩, H⟩
  case round =>
    obtain ⟨s1, ps, okp, hq, HX, HLn, HF⟩ := hrel
    have HQn := Aside0.mk hq
    clear hq H
    obtain ⟨vf, vw, bm, hX⟩ := HF.out.win
    obtain ⟨c0, c1, c2, c3, c4, c5, c6, cf⟩ := hX.cells
    obtain ⟨Af, cf', hef⟩ := Kd.R_slice hX.flights
    subst hef
    obtain ⟨Aw, cw, hew, hcw⟩ := Kd.Q_slice hX.waits
    subst hew
    have HWX := Aside0.mk hX
    have hfl := HX.out.1.fl
    have hwl := HX.out.1.wl
    clear c1 c2 c5 hX
    by_cases hgo : s1.online = true ∧ (s1.flights.length : Int) < s1.window ∧ s1.waits ≠ []
    · obtain ⟨ho, hn, hw⟩ := hgo
      obtain ⟨m, r, hwr⟩ := List.exists_cons_of_ne_nil hw
      have hd1 : decide ((s1.flights.length : Int) < s1.window) = true := decide_eq_true hn
      have hd2 : decide ((s1.waits.length : Int) > 0) = true := decide_eq_true (by rw [hwr]; simp)
      have hd3 : decide (0 < s1.waits.length) = true := decide_eq_true (by rw [hwr]; simp)
      have hd4 : 0 < s1.waits.length := by rw [hwr]; simp
      have HN := Aside0.mk hn
      have HW := Aside0.mk hwr
      rw [ho] at c6
      have HO := Aside0.mk ho
      clear hn hw hwr ho
      go_wp2_with fail
      go_quiet (fail)
      clear c0 c3 c4 c6 cf
      generalize hW2 : World.drewN _ _ = W2
      have hd : Below wr.heap.size wr W2 := by rw [← hW2]; exact pw_below_drewN (Below.refl _ _) _
      clear hW2
      have HF2 := Aside0.mk (HF.out.below (Nat.le_trans hbw HF.out.fr.size) hd)
      have HW2 := Aside0.mk ((HWX.out.below hd).mono (ok' := fun k => okN okb w W2 k ∧ ¬ okp k) (fun k hk => ⟨okN_mono hk.1 hd.size, hk.2⟩))
      obtain ⟨c0, c1, c2, c3, c4, c5, c6, cf⟩ := HW2.out.cells
      have hC := (Kd.Q_reads' HW2.out.waits).2.2
      rw [HW.out] at hC
      obtain ⟨ad, Ap, cp, hAd, m0, m1, m2, m3, hpc, hpC⟩ := msg_at hC 0 (by simp)
      subst hAd
      simp only [Nat.zero_mul, Addr.add_zero', List.getD_cons_zero] at m0 m1 m2 m3 hpc hpC
      have HC := Aside0.mk hpC
      have hBl : B < W2.heap.size := blk_lt HW2.out.blk
      have hcl : ((1 : Nat) : Int) ≤ cw := by omega
      have hQd := Kd.Q_drop HW2.out.waits (k := 1) (by omega)
      have hld : s1.waits.drop 1 = r := by rw [HW.out]; rfl
      rw [hld] at hQd
      have e4 : ad.add (1 * kMsg.sz) = ⟨ad.block, ad.off + 4, none⟩ := by show ad.add 4 = _; simp [Addr.add]
      have HP1 := fun (e : cw = 1) => Aside0.mk (HF2.out.pop HW2.out hokb (v1 := .slice (some ad) (s1.waits.length - 1) 0) (by rw [if_pos e, e] at hQd; exact hQd))
      have HP2 := fun (e : ¬ cw = 1) => Aside0.mk (HF2.out.pop HW2.out hokb (v1 := .slice (some ⟨ad.block, ad.off + 4, none⟩) (s1.waits.length - 1) (cw - 1)) (by rw [if_neg e, Option.map_some, e4] at hQd; exact hQd))
      have HCp := fun (v : Value) => Aside0.mk (Kd.C_alloc ((WinAt'.C_u8 ⟨_, _, _, HW2.out⟩ HC.out ((Fr.refl (fun k => k = B) W2).setCell (p := ⟨B, 4, none⟩) (fun _ => rfl) v))) (.cells #[.string m.topic, .slice Ap m.payload.length cp, .int .i64 m.qos, .bool m.retain] 64))
      clear hC hpC hd c0 c1 c2 c3 c5 c6 hQd hld e4 HF HWX
      by_cases hc1 : cw = 1
      all_goals
        have HPP := by first | exact HP1 hc1 | exact HP2 hc1
        have HP3 := Aside0.mk (HPP.out.below (Nat.le_trans hbw HPP.out.fr.size) ((Below.refl _ _).alloc (Nat.le_refl _) (.cells #[.string m.topic, .slice Ap m.payload.length cp, .int .i64 m.qos, .bool m.retain] 64)))
        clear HP1 HP2 HPP
        have HCW := Aside0.mk hc1
        have HS3 := Aside0.mk (show WOk { s1 with waits := r } ∧ WPl { s1 with waits := r } ∧ Short m ∧ s1.flights.length < 65536 from by
          have hok1 := HX.out.1
          have hp1 := HX.out.2.1
          have hlr : s1.waits.length = r.length + 1 := by rw [HW.out]; rfl
          refine ⟨⟨hok1.w1, hok1.w2, hok1.q1, hok1.q2, hok1.l1, hok1.l2, hok1.fl, by show r.length ≤ _; omega⟩, ⟨fun x hx => hp1.waits x (by rw [HW.out]; exact List.mem_cons_of_mem _ hx), hp1.flights⟩, hp1.waits m (by rw [HW.out]; exact List.mem_cons_self), ?_⟩
          have := HN.out
          have := hok1.w2
          omega)
        go_wp2_with fail
        refine (launch_call HP3.out.win HS3.out.1 m Ap cp w0 HP3.out.bel (Nat.le_trans hbw HP3.out.fr.size) (HCp _).out HS3.out.2.2.1 HS3.out.2.2.2).mono ?_
        rintro e w4 ⟨cs, okp2, rfl, hM, hn2, hw4, hf4, hb4⟩
        have hpush := fun X2 => HP3.out.push hokb (X2 := X2) hn2 hw4 hf4 hb4 hbw
        have HPU := Aside0.mk hpush
        have HM4 := Aside0.mk (kPkt.M_lower HP3.out.fr.size hM)
        have HN2 := Aside0.mk hn2
        have hw4s := Nat.le_trans HP3.out.fr.size hf4.size
        clear hM hn2 hw4 hf4 hb4 hpush HCp
        have hlen : cs.length = 25 := kPkt.K_len (kPkt.K_of_M HM4.out)
        have HLEN := Aside0.mk hlen
        clear hlen
        go_wp2_with (first | (refine wpList_buildOne rfl 65 75 _ rfl cs rfl (.agg noCells) 25 328 Try.underlying65 infoPkt rfl HLEN.out (by decide) (by decide) ?_) | (at_builtin; refine Kd.R_append kPkt (w0 := w4) (W := w4) w.heap.size rfl (.tmp 43) (.tmp 47) 65 75 (.agg noCells) 328 rfl Try.underlying65 infoPkt rfl (by decide) (by omega) _ ps (launchP { s1 with waits := r } m) cs (fun k => okp k ∨ okp2 k ∨ w4.heap.size ≤ k) okp2 rfl rfl HM4.out ?okp ?fresh ?HO (Below.refl _ _) hw4s ?hl ?_))
        case okp => exact fun k hk => ⟨.inr (.inl hk), fun e => by have h1 := (HP3.out.new k (HP3.out.pk.1 k e.symm)).2; have h2 := (HN2.out k hk).1; omega⟩
        case fresh => exact fun k hk => .inr (.inr hk)
        case HO => exact Kd.R_mono (HPU.out w4).1 (fun k hk => .inl hk)
        case hl => have := HLn.out; have := HOK.out.wl; omega
        intro v1 w5 hR hb5 hg5 hat5
        have HF5 := Aside0.mk ((HPU.out w5).2 v1 _ hR hg5)
        clear hR hb5 hg5 hat5
        go_wp2_with fail
        go_roundg r.length
        case measure => have h1 := HQn.out; rw [HW.out] at h1; simp at h1; omega
        case rel =>
          have hst := fillF_step s1 m r HW.out ⟨HO.out, HN.out⟩
          have h1 := HX.out.2.2.1
          have h2 := HX.out.2.2.2
          have h3 := HLn.out
          have h4 := HQn.out
          rw [HW.out] at h4
          rw [hst] at h1 h2
          refine ⟨launchS { s1 with waits := r } m, ps ++ [launchP { s1 with waits := r } m], _, rfl, ⟨launchS_ok HS3.out.1 HS3.out.2.2.2 m, launchS_pl HS3.out.2.1 m HS3.out.2.2.1, ?_, h2⟩, ⟨?_⟩, HF5⟩
          · rw [← h1, List.append_assoc]; rfl
          · simp only [List.length_append, List.length_cons, List.length_nil] at h4 ⊢
            omega
    · have HE := Aside0.mk (fillF_end s1 hgo)
      have hgo' : s1.online = false ∨ (s1.online = true ∧ decide ((s1.flights.length : Int) < s1.window) = false) ∨ (s1.online = true ∧ decide ((s1.flights.length : Int) < s1.window) = true ∧ s1.waits = []) := by
        cases ho : s1.online with
        | false => exact .inl rfl
        | true =>
          by_cases hn : (s1.flights.length : Int) < s1.window
          · refine .inr (.inr ⟨rfl, decide_eq_true hn, ?_⟩)
            by_cases hw : s1.waits = []
            · exact hw
            · exact (hgo ⟨ho, hn, hw⟩).elim
          · exact .inr (.inl ⟨rfl, decide_eq_false hn⟩)
      clear hgo
      rcases hgo' with ho | ⟨ho, hd1⟩ | ⟨ho, hd1, hw⟩
      all_goals
        rw [ho] at c6
        try (have hw0 : s1.waits.length = 0 := by rw [hw]; rfl)
        try (have hd3 : decide (0 < s1.waits.length) = false := by rw [hw0]; rfl)
        try clear hw
        have HO := Aside0.mk ho
        clear ho
        go_wp2_with fail
        go_quiet (fail)
        go_wp2_with fail
        go_ret
        have hF := HF.out.below (Nat.le_trans hbw HF.out.fr.size) (pw_below_drewN (Below.refl wr.heap.size wr) nq)
        have h1 := HX.out.2.2.1
        have h2 := HX.out.2.2.2
        rw [HE.out] at h1 h2
        simp only [List.append_nil] at h1
        rw [← h1, ← h2]
        exact ⟨_, okp, rfl, hF.pk, hF.new, hF.win.mono (fun k hk => ⟨Or.elim hk.1 (fun h => .inl (hokok k h)) (fun h => .inr h), hk.2⟩), hF.fr.mono (fun k _ hk => hokok k hk), hF.bel⟩
end Go.Proofs.Ytjccmlmkcjmicaa.Win

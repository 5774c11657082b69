/- The walk of a window's Ack. No statement of the program. -/
import Derived.Test.YtjccmlmkcjmicaaFltCut
namespace Go.Proofs.Ytjccmlmkcjmicaa.Win
open Go Go.RowKit Go.Maps Go.MapKept Go.ChangeMaps Go.Proofs.YtjccmlmkcjmicaaW.PrintWords Go.Proofs.Ytjccmlmkcjmicaa.Kinds
set_option linter.unusedVariables false
set_option linter.unusedSimpArgs false

theorem placeFrom_range : ∀ (fl : List Flt) (id : Int) (i : Nat), placeFrom fl id i = -1 ∨ ((i : Int) ≤ placeFrom fl id i ∧ placeFrom fl id i < i + fl.length ∧ (fl.getD ((placeFrom fl id i).toNat - i) noFlt).id = id)
  | [], _, _ => .inl rfl
  | f :: r, id, i => by
    rw [placeFrom]
    split
    · rename_i h
      refine .inr ⟨Int.le_refl _, by simp; omega, ?_⟩
      simp [h]
    · rcases placeFrom_range r id (i + 1) with h | ⟨h1, h2, h3⟩
      · exact .inl h
      · refine .inr ⟨by omega, by simp; omega, ?_⟩
        rw [show (placeFrom r id (i + 1)).toNat - i = ((placeFrom r id (i + 1)).toNat - (i + 1)) + 1 by omega, List.getD_cons_succ]
        exact h3
theorem placeL_range (fl : List Flt) (id : Int) : placeL fl id = -1 ∨ (0 ≤ placeL fl id ∧ placeL fl id < fl.length ∧ (fl.getD (placeL fl id).toNat noFlt).id = id) := by
  have := placeFrom_range fl id 0
  simpa [placeL] using this

/-- Ack: the packets, the window behind it -/
def ackDone (kind : Int) (f : Flt) : Prop := (kind = 4 ∧ f.released = false ∧ f.msg.qos = 1) ∨ (kind = 7 ∧ f.released = true)
def ackRec (kind : Int) (f : Flt) : Prop := kind = 5 ∧ (f.released = true ∨ f.msg.qos = 2)
instance (kind : Int) (f : Flt) : Decidable (ackDone kind f) := by unfold ackDone; infer_instance
instance (kind : Int) (f : Flt) : Decidable (ackRec kind f) := by unfold ackRec; infer_instance
def fltAt (s : WS) (id : Int) : Flt := s.flights.getD (placeL s.flights id).toNat noFlt
def ackF (s : WS) (kind id : Int) : List Pkt × WS :=
  if placeL s.flights id < 0 ∨ s.online = false then ([], s)
  else if ackDone kind (fltAt s id) then fillF { s with flights := s.flights.eraseIdx (placeL s.flights id).toNat }
  else if ackRec kind (fltAt s id) then ([pktOf ⟨id, noMsg, true⟩ false], { s with flights := s.flights.set (placeL s.flights id).toNat ⟨id, noMsg, true⟩ })
  else ([], s)

theorem quality_any (id q : Int) (t : ByteArray) (v : Value) (rt : Bool) (w : World) :
    Calls Try.prog 72 #[.agg #[.int .i64 id, .string t, v, .int .i64 q, .bool rt, .bool false]] w fun e w' => e = .returned (.int .i64 q) ∧ Below w.heap.size w w' := by
  go_enter Try.func72, Try.ntmps72
  go_wp2
  go_ret
  exact ⟨rfl, (Below.refl _ _).alloc (Nat.le_refl _) _⟩

set_option maxRecDepth 100000 in
set_option maxHeartbeats 1000000 in
theorem ack_none {w : World} {base B : Nat} {ok : Nat → Prop} {s : WS} (h : WinAt' w base ok B s) (hok : WOk s) (kind id : Int) (hq : placeL s.flights id < 0 ∨ s.online = false) :
    Calls Try.prog 34 #[.pointer (some ⟨B, 0, none⟩), .int .i64 kind, .int .i64 id] w fun e w' => e = .returned (.slice none 0 0) ∧ Below w.heap.size w w' := by
  have HP := Aside0.mk (place_any h hok.fl id)
  obtain ⟨pl, hpl⟩ : ∃ pl, placeL s.flights id = pl := ⟨_, rfl⟩
  rw [hpl] at HP hq
  have H := Aside0.mk h
  clear h hok hpl
  go_enter Try.func34, Try.ntmps34
  go_wp2_with fail
  refine HP.out.mono ?_
  rintro e w1 ⟨rfl, hb⟩
  obtain ⟨vf, vw, bm, hX⟩ := H.out.below hb
  obtain ⟨_, _, _, _, _, _, c6, _⟩ := hX.cells
  have HB := Aside0.mk hb
  clear hX hb HP
  by_cases hp : pl < 0
  · go_wp2
    go_ret
    exact ⟨rfl, HB.out⟩
  · have hp' : decide (pl < 0) = false := decide_eq_false hp
    have ho : s.online = false := hq.resolve_left hp
    rw [ho] at c6
    clear hq hp ho
    go_wp2
    go_ret
    exact ⟨rfl, HB.out⟩
theorem ack_at2 {w : World} {base B : Nat} {ok : Nat → Prop} {s : WS} {vf vw : Value} {bm : Nat} (h : WinAt w base ok B s vf vw bm) {i : Nat} (hi : i < s.flights.length) : ∃ (g c : Nat) (v : Value), vf = .slice (some ⟨g, 0, none⟩) s.flights.length c ∧ s.flights.length ≤ c ∧
    w.cell? ⟨g, i * 6, none⟩ = some (.int .i64 (s.flights.getD i noFlt).id) ∧ w.cell? ⟨g, i * 6 + 1, none⟩ = some (.string (s.flights.getD i noFlt).msg.topic) ∧ w.cell? ⟨g, i * 6 + 2, none⟩ = some v ∧ w.cell? ⟨g, i * 6 + 3, none⟩ = some (.int .i64 (s.flights.getD i noFlt).msg.qos) ∧
    w.cell? ⟨g, i * 6 + 4, none⟩ = some (.bool (s.flights.getD i noFlt).msg.retain) ∧ w.cell? ⟨g, i * 6 + 5, none⟩ = some (.bool (s.flights.getD i noFlt).released) ∧ (∀ j, w.frozen? ⟨g, i * 6 + j, none⟩ = false) ∧
    ∃ A n c', v = .slice A n c' ∧ n = (s.flights.getD i noFlt).msg.payload.length ∧ (Kd.int .u8).C w A (s.flights.getD i noFlt).msg.payload.length (s.flights.getD i noFlt).msg.payload := by
  obtain ⟨g, c, rfl, hbg, hlt, cells, hg⟩ := Kd.R_form h.flights (by omega)
  have hc : s.flights.length ≤ c := (Kd.R_reads' h.flights).2.1
  obtain ⟨cs, hcl, hM, hcc, hf⟩ := Kd.R_elem h.flights noFlt (i : Int) (by omega) (by omega)
  simp only [Int.toNat_natCast] at hM hcc hf
  obtain ⟨v, rfl, hR⟩ := flt_M hM
  obtain ⟨A, c', hv, _, hC⟩ := Kd.R_reads hR
  exact ⟨g, c, v, rfl, hc, hcc 0 _ rfl, hcc 1 _ rfl, hcc 2 _ rfl, hcc 3 _ rfl, hcc 4 _ rfl, hcc 5 _ rfl, hf, A, _, c', hv, rfl, hC⟩
/-- what Ack finds: the flight's place, its cells -/
theorem ack_at {w : World} {base B : Nat} {ok : Nat → Prop} {s : WS} {vf vw : Value} {bm : Nat} (h : WinAt w base ok B s vf vw bm) {i : Nat} (hi : i < s.flights.length) : ∃ (g c : Nat) (v : Value), vf = .slice (some ⟨g, 0, none⟩) s.flights.length c ∧ s.flights.length ≤ c ∧
    w.cell? ⟨g, i * 6, none⟩ = some (.int .i64 (s.flights.getD i noFlt).id) ∧ w.cell? ⟨g, i * 6 + 1, none⟩ = some (.string (s.flights.getD i noFlt).msg.topic) ∧ w.cell? ⟨g, i * 6 + 2, none⟩ = some v ∧ w.cell? ⟨g, i * 6 + 3, none⟩ = some (.int .i64 (s.flights.getD i noFlt).msg.qos) ∧
    w.cell? ⟨g, i * 6 + 4, none⟩ = some (.bool (s.flights.getD i noFlt).msg.retain) ∧ w.cell? ⟨g, i * 6 + 5, none⟩ = some (.bool (s.flights.getD i noFlt).released) ∧ (∀ j, w.frozen? ⟨g, i * 6 + j, none⟩ = false) ∧ ∃ A n c', v = .slice A n c' := by
  obtain ⟨g, c, rfl, hbg, hlt, cells, hg⟩ := Kd.R_form h.flights (by omega)
  have hc : s.flights.length ≤ c := (Kd.R_reads' h.flights).2.1
  obtain ⟨cs, hcl, hM, hcc, hf⟩ := Kd.R_elem h.flights noFlt (i : Int) (by omega) (by omega)
  simp only [Int.toNat_natCast] at hM hcc hf
  obtain ⟨v, rfl, hR⟩ := flt_M hM
  obtain ⟨A, c', hv⟩ := Kd.R_slice hR
  exact ⟨g, c, v, rfl, hc, hcc 0 _ rfl, hcc 1 _ rfl, hcc 2 _ rfl, hcc 3 _ rfl, hcc 4 _ rfl, hcc 5 _ rfl, hf, A, _, c', hv⟩

set_option maxRecDepth 100000 in
set_option maxHeartbeats 2000000 in
theorem ack_not {w : World} {base B : Nat} {ok : Nat → Prop} {s : WS} (h : WinAt' w base ok B s) (hok : WOk s) (kind id : Int) (i : Nat) (hpl : placeL s.flights id = (i : Int)) (hi : i < s.flights.length) (ho : s.online = true) (hd : ¬ ackDone kind (s.flights.getD i noFlt)) (hr : ¬ ackRec kind (s.flights.getD i noFlt)) :
    Calls Try.prog 34 #[.pointer (some ⟨B, 0, none⟩), .int .i64 kind, .int .i64 id] w fun e w' => e = .returned (.slice none 0 0) ∧ Below w.heap.size w w' := by
  have HP := Aside0.mk (place_any h hok.fl id)
  rw [hpl] at HP
  have H := Aside0.mk h
  have HI := Aside0.mk hi
  have hi1 : (i : Int) < s.flights.length := by omega
  have hi0 : (0 : Int) ≤ (i : Int) := by omega
  have hi2 : decide ((i : Int) < 0) = false := decide_eq_false (by omega)
  clear h hok hpl hi
  go_enter Try.func34, Try.ntmps34
  go_wp2_with fail
  refine HP.out.mono ?_
  rintro e w1 ⟨rfl, hb⟩
  obtain ⟨vf, vw, bm, hX⟩ := H.out.below hb
  obtain ⟨_, _, _, c3, _, _, c6, _⟩ := hX.cells
  obtain ⟨g, c, v, hvf, hc, y0, y1, y2, y3, y4, y5, _, Ap, np, cp, hv⟩ := ack_at hX HI.out
  subst hvf hv
  rw [ho] at c6
  have HB := Aside0.mk hb
  have HQ := fun t q rt W => Aside0.mk (quality_any id q t (.slice Ap np cp) rt W)
  clear hX hb HP ho
  obtain ⟨f, hf⟩ : ∃ f, s.flights.getD i noFlt = f := ⟨_, rfl⟩
  rw [hf] at y0 y1 y3 y4 y5 hd hr
  clear hf
  obtain ⟨fid, ⟨t, pp, q, rt⟩, rel⟩ := f
  dsimp only at *
  go_wp2_with fail
  refine (HQ _ _ _ _).out.mono ?_
  rintro e w2 ⟨rfl, hb2⟩
  have hgl : g < w1.heap.size := World.block_lt_of_cell? w1 _ y0
  have z5 : w2.cell? ⟨g, i * 6 + 5, none⟩ = some (.bool rel) := (hb2.cell (p := ⟨g, i * 6 + 5, none⟩) hgl).trans y5
  have HB2 := Aside0.mk (HB.out.trans (hb2.mono HB.out.size))
  clear hb2 y0 y1 y2 y3 y4 y5 HQ c3 c6 HB
  have hcase : (((kind == 4) = false) ∨ ((kind == 4) = true ∧ rel = true) ∨ ((kind == 4) = true ∧ rel = false ∧ (q == 1) = false)) ∧ (((kind == 7) = false) ∨ ((kind == 7) = true ∧ rel = false)) ∧ (((kind == 5) = false) ∨ ((kind == 5) = true ∧ rel = false ∧ (q == 2) = false)) := by
    unfold ackDone at hd
    unfold ackRec at hr
    simp only [not_or, not_and] at hd hr
    refine ⟨?_, ?_, ?_⟩
    · by_cases h4 : kind = 4
      · cases rel
        · exact .inr (.inr ⟨by simp [h4], rfl, by have := hd.1 h4 rfl; simpa using this⟩)
        · exact .inr (.inl ⟨by simp [h4], rfl⟩)
      · exact .inl (by simpa using h4)
    · by_cases h4 : kind = 7
      · cases rel
        · exact .inr ⟨by simp [h4], rfl⟩
        · exact ((hd.2 h4) rfl).elim
      · exact .inl (by simpa using h4)
    · by_cases h4 : kind = 5
      · cases rel
        · exact .inr ⟨by simp [h4], rfl, by have := (hr h4).2; simpa using this⟩
        · exact (((hr h4).1) rfl).elim
      · exact .inl (by simpa using h4)
  clear hd hr
  obtain ⟨h4, h7, h5⟩ := hcase
  rcases h4 with h4 | ⟨h4, hrel⟩ | ⟨h4, hrel, hq1⟩ <;> rcases h7 with h7 | ⟨h7, hrel7⟩ <;> rcases h5 with h5 | ⟨h5, hrel5, hq2⟩
  all_goals try subst hrel
  all_goals try cases hrel7
  all_goals try cases hrel5
  all_goals
    go_wp2_with fail
    go_ret
    exact ⟨rfl, HB2.out⟩

theorem eraseIdx_ok {s : WS} (h : WOk s) (i : Nat) : WOk { s with flights := s.flights.eraseIdx i } :=
  ⟨h.w1, h.w2, h.q1, h.q2, h.l1, h.l2, Nat.le_trans (List.length_eraseIdx_le ..) h.fl, h.wl⟩
theorem eraseIdx_pl {s : WS} (h : WPl s) (i : Nat) : WPl { s with flights := s.flights.eraseIdx i } :=
  ⟨h.waits, fun f hf => h.flights f (List.mem_of_mem_eraseIdx hf)⟩

theorem FillAt.rebase {w W5 w' w0 : World} {base B : Nat} {ok okp : Nat → Prop} {s : WS} {v : Value} {ps : List Pkt} (h : FillAt W5 base (fun k => ok k ∨ w.heap.size ≤ k) B w0 v ps okp s w') (hF : Fr ok w W5) : FillAt w base ok B w0 v ps okp s w' := by
  have hs := hF.size
  refine ⟨Kd.R_lower h.pk hs, fun k hk => ⟨Nat.le_trans hs (h.new k hk).1, (h.new k hk).2⟩, h.win.bound.mono (fun k hk => ⟨?_, hk.1.2⟩), hF.trans h.fr (fun k hk1 hk => ?_), h.bel⟩
  · rcases hk.1.1 with (h1 | h1) | h1
    · exact .inl h1
    · exact .inr ⟨h1, hk.2⟩
    · exact .inr ⟨by omega, hk.2⟩
  · rcases hk with h1 | h1
    · exact h1
    · omega
theorem fill_call {w : World} {base B : Nat} {ok : Nat → Prop} {s : WS} (h : WinAt' w base ok B s) (hok : WOk s) (hpl : WPl s) (w0 : World) (hwb : Below base w0 w) (hbw : base ≤ w.heap.size) :
    Calls Try.prog 70 #[.pointer (some ⟨B, 0, none⟩)] w fun e w' => ∃ (v : Value) (okp : Nat → Prop), e = .returned v ∧ FillAt w base ok B w0 v (fillF s).1 okp (fillF s).2 w' := by
  refine (fill_any h hok hpl w0 hwb hbw).mono ?_
  rintro e w' ⟨v, okp, rfl, h1, h2, h3, h4, h5⟩
  exact ⟨v, okp, rfl, h1, h2, h3, h4, h5⟩
/-- the cell of what is under way is written -/
theorem WinAt.setFlights {w : World} {base B bm : Nat} {ok ok' : Nat → Prop} {s : WS} {vf vw : Value} (h : WinAt w base ok B s vf vw bm) {v1 : Value} {fs : List Flt} (hq : kFlt.R 112 w base ok' v1 fs) (hok : ∀ k, ok k → ok' k) : WinAt (w.setCell ⟨B, 3, none⟩ v1) base ok' B { s with flights := fs } v1 vw bm := by
  refine ⟨hok _ h.okB, hok _ h.okM, h.baseB, h.baseM, ?_, Kd.R_set hq h.blk (by decide) 3 v1, Kd.Q_mono (Kd.Q_set h.waits h.blk (by decide) 3 v1) hok, h.map.setCell (a := ⟨B, 3, none⟩) (fun e => ?_) v1⟩
  · rw [blk_set h.blk 3 v1]; simp [winCells]
  · obtain ⟨es, clock, hb, _⟩ := h.map
    have e' : bm = B := e
    subst e'
    rw [h.blk] at hb
    cases hb

set_option maxRecDepth 100000 in
set_option maxHeartbeats 2000000 in
theorem ack_done {w : World} {base B : Nat} {ok : Nat → Prop} {s : WS} (h : WinAt' w base ok B s) (hok : WOk s) (hpl0 : WPl s) (kind id : Int) (w0 : World) (hwb : Below base w0 w) (hbw : base ≤ w.heap.size) (i : Nat) (hpl : placeL s.flights id = (i : Int)) (hi : i < s.flights.length) (ho : s.online = true) (hd : ackDone kind (s.flights.getD i noFlt)) :
    Calls Try.prog 34 #[.pointer (some ⟨B, 0, none⟩), .int .i64 kind, .int .i64 id] w fun e w' => ∃ (v : Value) (okp : Nat → Prop), e = .returned v ∧ FillAt w base ok B w0 v (fillF { s with flights := s.flights.eraseIdx i }).1 okp (fillF { s with flights := s.flights.eraseIdx i }).2 w' := by
  have HP := Aside0.mk (place_any h hok.fl id)
  rw [hpl] at HP
  obtain ⟨okb, hokb, hokbase, hokok, h'⟩ := h.bound2
  have H := Aside0.mk h'
  have HI := Aside0.mk hi
  have HOK := Aside0.mk hok
  have HPL := Aside0.mk hpl0
  have hi1 : (i : Int) < s.flights.length := by omega
  have hi0 : (0 : Int) ≤ (i : Int) := by omega
  have hi2 : decide ((i : Int) < 0) = false := decide_eq_false (by omega)
  clear h h' hok hpl hi hpl0
  go_enter Try.func34, Try.ntmps34
  go_wp2_with fail
  refine HP.out.mono ?_
  rintro e w1 ⟨rfl, hb⟩
  obtain ⟨vf, vw, bm, hX⟩ := H.out.below hb
  obtain ⟨_, _, _, c3, _, _, c6, cf⟩ := hX.cells
  obtain ⟨g, c, v, hvf, hc, y0, y1, y2, y3, y4, y5, _, Ap, np, cp, hv⟩ := ack_at hX HI.out
  subst hvf hv
  rw [ho] at c6
  have HB := Aside0.mk hb
  have HQ := fun t q rt W => Aside0.mk (quality_any id q t (.slice Ap np cp) rt W)
  have HX := Aside0.mk hX
  clear hX hb HP ho
  obtain ⟨f, hf⟩ : ∃ f, s.flights.getD i noFlt = f := ⟨_, rfl⟩
  rw [hf] at y0 y1 y3 y4 y5 hd
  clear hf
  obtain ⟨fid, ⟨t, pp, q, rt⟩, rel⟩ := f
  dsimp only at *
  go_wp2_with fail
  refine (HQ _ _ _ _).out.mono ?_
  rintro e w2 ⟨rfl, hb2⟩
  have hgl : g < w1.heap.size := World.block_lt_of_cell? w1 _ y0
  have z5 : w2.cell? ⟨g, i * 6 + 5, none⟩ = some (.bool rel) := (hb2.cell (p := ⟨g, i * 6 + 5, none⟩) hgl).trans y5
  have hX2 := HX.out.below hb2
  obtain ⟨_, _, _, d3, _, _, _, df⟩ := hX2.cells
  have df3 := df 3
  have HX2 := Aside0.mk hX2
  have HB2 := Aside0.mk (HB.out.trans (hb2.mono HB.out.size))
  have HCl := Aside0.mk (clone_any hX2.flights (Nat.le_trans hbw HB2.out.size) HOK.out.fl (by have := HI.out; omega))
  clear hb2 y0 y1 y2 y3 y4 y5 HQ c3 c6 HB cf df hX2 HX
  have hcase : ((kind == 4) = true ∧ rel = false ∧ (q == 1) = true) ∨ ((kind == 4) = false ∧ (kind == 7) = true ∧ rel = true) := by
    rcases hd with ⟨h1, h2, h3⟩ | ⟨h1, h2⟩
    · exact .inl ⟨by simp [h1], h2, by have h3' : q = 1 := h3; simp [h3']⟩
    · exact .inr ⟨by simp [h1], by simp [h1], h2⟩
  clear hd
  rcases hcase with ⟨h4, hrel, hq1⟩ | ⟨h4, h7, hrel⟩
  all_goals
    subst hrel
    go_wp2_with fail
    refine HCl.out.mono ?_
    rintro e w3 ⟨g1, c1, rfl, hR, hg1, hb3⟩
    have HB3 := Aside0.mk hb3
    have HR3 := Aside0.mk hR
    have hg1' := hg1
    have HDl := Aside0.mk (delete_any (k := i) hR (Nat.le_trans hbw (Nat.le_trans HB2.out.size hb3.size)) HOK.out.fl HI.out)
    clear hR hb3 HCl
    have hwr : wrap64 ((i : Int) + 1) = (i : Int) + 1 := by have := HI.out; have := HOK.out.fl; unfold wrap64; omega
    go_wp2_with fail
    rw [hwr]
    refine HDl.out.mono ?_
    rintro e w4 ⟨rfl, hR4, hg4⟩
    have hBlt := blk_lt HX2.out.blk
    have hF4 : Fr (fun k => k = g1) w3 w4 := (Fr.refl (fun k => k = g1) w3).grown hg4 (fun k _ e => by injection e with e; exact e.symm)
    have hX4 := (HX2.out.below HB3.out).fr hF4 (fun k hk e => by have := hokb k hk; have := HB2.out.size; omega)
    have hR5 := Kd.R_mono hR4 (ok' := fun k => okb k ∨ w.heap.size ≤ k) (fun k hk => by
      rcases hk with hk | hk
      · exact .inl hk.1
      · exact .inr (Nat.le_trans HB2.out.size hk))
    have hX5 := hX4.setFlights hR5 (fun k hk => .inl hk)
    have hF5 : Fr okb w (w4.setCell ⟨B, 3, none⟩ (.slice (some ⟨g1, 0, none⟩) (s.flights.length - 1) c1)) :=
      ((((Fr.of_below (fun _ => False) HB2.out).mono (fun _ _ e => e.elim)).trans (Fr.of_below (fun _ => False) HB3.out) (fun _ _ e => e.elim)).trans hF4 (fun k hk e => by have := HB2.out.size; omega)).setCell (p := ⟨B, 3, none⟩) (fun _ => HX2.out.okB) _
    have HFi := Aside0.mk (fill_call ⟨_, _, _, hX5⟩ (eraseIdx_ok HOK.out i) (eraseIdx_pl HPL.out i) w0 (hF5.below hwb hokbase hbw) (Nat.le_trans hbw hF5.size))
    have HF5 := Aside0.mk hF5
    have k3 : w4.cell? ⟨B, 3, none⟩ = some (.slice (some ⟨g, 0, none⟩) s.flights.length c) := blk_cell hX4.blk 3
    have kf : w4.frozen? ⟨B, 3, none⟩ = false := blk_frozen hX4.blk 3
    clear hBlt hF4 hX4 hR5 hX5 hF5 hR4 hg4 hwr HDl
    go_wp2_with fail
    refine HFi.out.mono ?_
    rintro e w6 ⟨v, okp, rfl, hF⟩
    have HF6 := Aside0.mk ((hF.rebase HF5.out).mono hokok)
    clear hF HFi
    go_wp2_with fail
    go_ret
    exact ⟨_, okp, rfl, HF6.out⟩

/-- a flight's cells are written anew -/
theorem WinAt.fset {w w1 : World} {base B bm : Nat} {ok : Nat → Prop} {s : WS} {vf vw : Value} (h : WinAt w base ok B s vf vw bm) {fs : List Flt} (hq : kFlt.R 112 w1 base ok vf fs) (hl : fs.length = s.flights.length) (hg : w.grownBy w1 vf.ownBlock) :
    WinAt w1 base ok B { s with flights := fs } vf vw bm := by
  have hB1 : w1.heap[B]? = some (.cells (winCells s vf vw bm) 103 (0, 0)) := blk_grown h.blk hg (Kd.R_ne h.flights h.blk (by decide))
  refine ⟨h.okB, h.okM, h.baseB, h.baseM, hB1, hq, Kd.Q_over' h.waits (e' := 112) (fun k hk => Kd.R_typed h.flights k hk) (by decide) hg, ?_⟩
  obtain ⟨es, clock, hb, r⟩ := h.map
  refine ⟨es, clock, (hg.block bm (Array.getElem?_eq_some_iff.1 hb).1 (fun e => ?_)).trans hb, r⟩
  obtain ⟨cells, hc⟩ := Kd.R_typed h.flights bm e.symm
  rw [hb] at hc; cases hc

theorem FillAt.one {w X X4 w0 : World} {base B : Nat} {ok : Nat → Prop} {s : WS} {p : Pkt} {cs : List Value} (hw : WinAt' X base (okN ok w X) B s) (hf : Fr ok w X) (hb : Below base w0 X) (hbw : base ≤ w.heap.size) (hM : kPkt.M X4 X.heap.size (fun k => X.heap.size ≤ k) p cs) (h4 : Below X.heap.size X X4) :
    FillAt w base ok B w0 (.slice (some ⟨X4.heap.size, 0, none⟩) 1 1) [p] (fun k => X.heap.size ≤ k ∧ k < X4.heap.size + 1) s (X4.alloc (.cells cs.toArray 75)) := by
  have hs := hf.size
  have hs4 := h4.size
  have hal : Below X4.heap.size X4 (X4.alloc (.cells cs.toArray 75)) := (Below.refl _ _).alloc (Nat.le_refl _) _
  have hz : (X4.alloc (.cells cs.toArray 75)).heap.size = X4.heap.size + 1 := by simp
  have hR := R_one (kPkt.M_lower hs hM) (Nat.le_trans hs hs4)
  refine ⟨Kd.R_mono (Kd.R_bound hR) (fun k hk => ?_), fun k hk => by rw [hz]; omega, (hw.bound.below (h4.trans (hal.mono hs4))).mono (fun k hk => ⟨?_, fun h => by omega⟩), (hf.trans (Fr.of_below (fun _ => False) h4) (fun _ _ e => e.elim)).trans (Fr.of_below (fun _ => False) hal) (fun _ _ e => e.elim), hb.trans ((h4.trans (hal.mono hs4)).mono (by omega))⟩
  · have h1 := hk.2.2.1
    rw [hz] at h1
    rcases hk.1 with h | h <;> exact ⟨by omega, h1⟩
  · rcases hk.1 with h | h
    · exact .inl h
    · exact .inr ⟨h.1, by rw [hz]; omega⟩
/-- the cells of a flight that is released -/
def relCells (id : Int) : List Value := [.int .i64 id, .string ⟨#[]⟩, .slice none 0 0, .int .i64 0, .bool false, .bool true]
set_option maxRecDepth 100000 in
theorem flt_write {w : World} {base g n c i : Nat} {ok : Nat → Prop} {fl : List Flt} (h : kFlt.R 112 w base ok (.slice (some ⟨g, 0, none⟩) n c) fl) (hi : i < n) (id : Int) :
    (Instr.storeAt 112 (.pointer (some ⟨g, i * 6, none⟩)) (.agg #[.int .i64 id, .string ⟨#[]⟩, .slice none 0 0, .int .i64 0, .bool false, .bool true])).run Try.prog w = .ok () (w.setCells g (i * 6) (relCells id)) ∧
      kFlt.R 112 (w.setCells g (i * 6) (relCells id)) base ok (.slice (some ⟨g, 0, none⟩) n c) (fl.set i ⟨id, noMsg, true⟩) ∧ w.grownBy (w.setCells g (i * 6) (relCells id)) (some g) := by
  obtain ⟨cs, hcl, hM, hcc, _⟩ := Kd.R_elem h noFlt (i : Int) (by omega) (by omega)
  have hseg := Kd.R_seg h (i : Int) (by omega) (by omega) hcl hcc (j := 0) (seg := relCells id) (x' := ⟨id, noMsg, true⟩) (okp := fun _ => False) (by show 0 + 6 ≤ 6; omega) (by
    have e : cs.take 0 ++ relCells id ++ cs.drop (0 + (relCells id).length) = relCells id := by
      have h6 : cs.length = 6 := hcl
      simp [relCells, h6]
    rw [e]
    exact flt_M_mk (f := ⟨id, noMsg, true⟩) (Kd.R_nil _ _ _ _ _)) (fun k hk => hk.elim)
  simp only [Int.toNat_natCast, Nat.add_zero] at hseg
  refine ⟨?_, hseg.1, hseg.2⟩
  have hnc : n ≤ c := (Kd.R_reads' h).2.1
  obtain ⟨_, inner, hown, _⟩ := h
  rcases hown.2 with ⟨hv, _⟩ | ⟨g', cap', cur, hv, hb, hh, hnc', hcm, hcs, htake⟩
  · cases hv
  injection hv with ha _ hc'
  injection ha with ha
  injection ha with hg'
  subst hg'; subst hc'
  have hcs' : cur.size = c * 6 := hcs
  refine run_store_run 112 _ (relCells id) hh rfl fltSize ?_ (by simp [relCells, Value.oneCell'])
  show i * 6 + 6 ≤ cur.size
  omega

section
attribute [-go_sem] Instr.storeAt
set_option maxRecDepth 100000 in
set_option maxHeartbeats 2000000 in
theorem ack_rec {w : World} {base B : Nat} {ok : Nat → Prop} {s : WS} (h : WinAt' w base ok B s) (hok : WOk s) (kind id : Int) (w0 : World) (hwb : Below base w0 w) (hbw : base ≤ w.heap.size) (i : Nat) (hpl : placeL s.flights id = (i : Int)) (hi : i < s.flights.length) (ho : s.online = true) (hd : ackRec kind (s.flights.getD i noFlt)) :
    Calls Try.prog 34 #[.pointer (some ⟨B, 0, none⟩), .int .i64 kind, .int .i64 id] w fun e w' => ∃ (v : Value) (okp : Nat → Prop), e = .returned v ∧ FillAt w base ok B w0 v [pktOf ⟨id, noMsg, true⟩ false] okp { s with flights := s.flights.set i ⟨id, noMsg, true⟩ } w' := by
  have HP := Aside0.mk (place_any h hok.fl id)
  rw [hpl] at HP
  obtain ⟨okb, hokb, hokbase, hokok, h'⟩ := h.bound2
  have H := Aside0.mk h'
  have HI := Aside0.mk hi
  have HOK := Aside0.mk hok
  have hi1 : (i : Int) < s.flights.length := by omega
  have hi0 : (0 : Int) ≤ (i : Int) := by omega
  have hi2 : decide ((i : Int) < 0) = false := decide_eq_false (by omega)
  clear h h' hok hpl hi
  go_enter Try.func34, Try.ntmps34
  go_wp2_with fail
  refine HP.out.mono ?_
  rintro e w1 ⟨rfl, hb⟩
  obtain ⟨vf, vw, bm, hX⟩ := H.out.below hb
  obtain ⟨_, _, _, c3, _, _, c6, cf⟩ := hX.cells
  obtain ⟨g, c, v, hvf, hc, y0, y1, y2, y3, y4, y5, _, Ap, np, cp, hv⟩ := ack_at hX HI.out
  subst hvf hv
  rw [ho] at c6
  have HB := Aside0.mk hb
  have HQ := fun t q rt W => Aside0.mk (quality_any id q t (.slice Ap np cp) rt W)
  have HX := Aside0.mk hX
  clear hX hb HP ho
  obtain ⟨f, hf⟩ : ∃ f, s.flights.getD i noFlt = f := ⟨_, rfl⟩
  rw [hf] at y0 y1 y3 y4 y5 hd
  clear hf
  obtain ⟨fid, ⟨t, pp, q, rt⟩, rel⟩ := f
  dsimp only at *
  go_wp2_with fail
  refine (HQ _ _ _ _).out.mono ?_
  rintro e w2 ⟨rfl, hb2⟩
  have hgl : g < w1.heap.size := World.block_lt_of_cell? w1 _ y0
  have z5 : w2.cell? ⟨g, i * 6 + 5, none⟩ = some (.bool rel) := (hb2.cell (p := ⟨g, i * 6 + 5, none⟩) hgl).trans y5
  have HX2 := Aside0.mk (HX.out.below hb2)
  have HB2 := Aside0.mk (HB.out.trans (hb2.mono HB.out.size))
  clear hb2 y0 y1 y2 y3 y4 y5 HQ c3 c6 HB cf HX
  obtain ⟨hst, hR3, hg3⟩ := flt_write HX2.out.flights HI.out id
  have hX3 := HX2.out.fset hR3 (by simp) hg3
  generalize w2.setCells g (i * 6) (relCells id) = w3 at *
  have HX3 := Aside0.mk hX3
  have HG3 := Aside0.mk hg3
  have hgd : (s.flights.set i ⟨id, noMsg, true⟩).getD i noFlt = ⟨id, noMsg, true⟩ := by rw [List.getD_eq_getElem?_getD, List.getElem?_set_self HI.out]; rfl
  obtain ⟨g', c', v', hvf', hc', y0, y1, y2, y3, y4, y5, _, A', n', c'', hv', hC'⟩ := ack_at2 hX3 (i := i) (by simpa using HI.out)
  simp only [hgd] at y0 y1 y3 y4 y5 hC'
  injection hvf' with e1 e2 e3
  injection e1 with e1
  injection e1 with e1
  subst e1 hv'
  have HPk := Aside0.mk (packet_any ⟨id, noMsg, true⟩ A' c'' false w3 hC'.2 (by simp [noMsg]))
  have hn0 : n' = 0 := hC'.1
  subst hn0
  simp only [noMsg, List.length_nil] at HPk y1 y3 y4
  clear hR3 hg3 hX3 e2 e3 hc' hC' hgd
  have h5 : (kind == 5) = true := by simp [hd.1]
  have h4 : (kind == 4) = false := by simp [hd.1]
  have h7 : (kind == 7) = false := by simp [hd.1]
  have hcase : rel = true ∨ (rel = false ∧ (q == 2) = true) := by
    cases rel
    · refine .inr ⟨rfl, ?_⟩
      have := hd.2.resolve_left (by simp)
      have h2 : q = 2 := this
      simp [h2]
    · exact .inl rfl
  clear hd
  rcases hcase with hrel | ⟨hrel, hq2⟩
  all_goals
    subst hrel
    go_wp2_with fail
    refine HPk.out.mono ?_
    rintro e w4 ⟨cs, rfl, hM, hb4⟩
    have hlc : cs.length = 25 := kPkt.K_len (kPkt.K_of_M hM)
    have hF3 : Fr okb w w3 := ((Fr.of_below (fun _ => False) HB2.out).mono (fun _ _ e => e.elim)).grown HG3.out (fun k _ e => HX2.out.flights.1 k (by rw [← e]; rfl))
    have hF := (FillAt.one (w := w) (ok := okb) (w0 := w0) (WinAt'.mono ⟨_, _, _, HX3.out⟩ (fun k hk => .inl hk)) hF3 (hF3.below hwb hokbase hbw) hbw hM hb4).mono hokok
    have HF := Aside0.mk hF
    have HLEN := Aside0.mk hlc
    clear hlc hF3 hF hM hb4 HPk
    go_wp2_with (refine wpList_buildOne rfl 65 75 _ rfl cs rfl (.agg noCells) 25 328 Try.underlying65 infoPkt rfl HLEN.out (by decide) (by decide) ?_)
    go_ret
    exact ⟨_, _, rfl, HF.out⟩
end

theorem ack_any {w : World} {base B : Nat} {ok : Nat → Prop} {s : WS} (h : WinAt' w base ok B s) (hok : WOk s) (hpl : WPl s) (kind id : Int) (w0 : World) (hwb : Below base w0 w) (hbw : base ≤ w.heap.size) :
    Calls Try.prog 34 #[.pointer (some ⟨B, 0, none⟩), .int .i64 kind, .int .i64 id] w fun e w' => ∃ (v : Value) (okp : Nat → Prop), e = .returned v ∧ FillAt w base ok B w0 v (ackF s kind id).1 okp (ackF s kind id).2 w' := by
  unfold ackF
  by_cases hq : placeL s.flights id < 0 ∨ s.online = false
  · rw [if_pos hq]
    refine (ack_none h hok kind id hq).mono ?_
    rintro e w' ⟨rfl, hb⟩
    exact ⟨_, _, rfl, FillAt.quiet h hb hwb hbw⟩
  · rw [if_neg hq]
    have hp : ¬ placeL s.flights id < 0 := fun h => hq (.inl h)
    have ho : s.online = true := by cases hh : s.online; · exact (hq (.inr hh)).elim
                                    · rfl
    rcases placeL_range s.flights id with h1 | ⟨h1, h2, h3⟩
    · omega
    · obtain ⟨i, hi⟩ : ∃ i : Nat, placeL s.flights id = (i : Int) := ⟨_, (Int.toNat_of_nonneg h1).symm⟩
      unfold fltAt
      rw [hi, Int.toNat_natCast]
      have hil : i < s.flights.length := by omega
      by_cases hd : ackDone kind (s.flights.getD i noFlt)
      · rw [if_pos hd]
        exact ack_done h hok hpl kind id w0 hwb hbw i hi hil ho hd
      · rw [if_neg hd]
        by_cases hr : ackRec kind (s.flights.getD i noFlt)
        · rw [if_pos hr]
          exact ack_rec h hok kind id w0 hwb hbw i hi hil ho hr
        · rw [if_neg hr]
          refine (ack_not h hok kind id i hi hil ho hd hr).mono ?_
          rintro e w' ⟨rfl, hb⟩
          exact ⟨_, _, rfl, FillAt.quiet h hb hwb hbw⟩
end Go.Proofs.Ytjccmlmkcjmicaa.Win

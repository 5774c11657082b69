/- The walk of window.Of, of an image that is good. No statement of the program. -/
import Derived.Test.YtjccmlmkcjmicaaWinOp
import Derived.Test.YtjccmlmkcjmicaaWLast
import Derived.Test.YtjccmlmkcjmicaaPWindowLaterx2
import Derived.Test.YtjccmlmkcjmicaaPWindowLaterx3
namespace Go.Proofs.Ytjccmlmkcjmicaa.Win
open Go Go.RowKit Go.Maps Go.MapKept Go.ChangeMaps Go.Proofs.YtjccmlmkcjmicaaW.PrintWords Go.Proofs.YtjccmlmkcjmicaaW.PrintLast Go.Proofs.Ytjccmlmkcjmicaa.Kinds
set_option linter.unusedVariables false
set_option linter.unusedSimpArgs false

theorem nil_toList : (⟨#[]⟩ : ByteArray).toList = [] := by unfold ByteArray.toList; rw [ByteArray.toList.loop]; rfl
/-- an image that Of takes -/
structure ImgGood (n q last : Int) (fs : List Flt) (ms : List Msg) : Prop where
  l0 : 0 ≤ last
  l1 : last ≤ 65535
  rng : ∀ f ∈ fs, 1 ≤ f.id ∧ f.id ≤ 65535
  ids : (fs.map (·.id)).Nodup
  rel : ∀ f ∈ fs, f.released = true → f.msg = noMsg
  unr : ∀ f ∈ fs, f.released = false → sendB f.msg = true
  sf : ∀ f ∈ fs, Short f.msg
  qm : ∀ m ∈ ms, sendB m = true
  sm : ∀ m ∈ ms, Short m
  fw : (fs.length : Int) ≤ clampI 1 65535 n
  mq : (ms.length : Int) ≤ clampI 0 65536 q
def ofS (n q last : Int) (fs : List Flt) (ms : List Msg) : WS := { newS n q with last := last, flights := fs, waits := ms }
theorem ofS_ok {n q last : Int} {fs : List Flt} {ms : List Msg} (h : ImgGood n q last fs ms) (k j : Nat) : WOk (ofS n q last (fs.take k) (ms.take j)) := by
  have h0 := newS_ok n q
  have h1 := h.fw
  have h2 := h.mq
  have h3 : (newS n q).window = clampI 1 65535 n := rfl
  have h4 : (newS n q).queue = clampI 0 65536 q := rfl
  have h5 := h0.w2
  have h6 := h0.q2
  exact ⟨h0.w1, h0.w2, h0.q1, h0.q2, h.l0, h.l1, by show (fs.take k).length ≤ _; rw [List.length_take]; omega, by show (ms.take j).length ≤ _; rw [List.length_take]; omega⟩
theorem of_new {n q last : Int} {fs : List Flt} {ms : List Msg} (h : ImgGood n q last fs ms) (k : Nat) (hk : k < fs.length) {f : Flt} (hf : fs.getD k noFlt = f) :
    placeL (fs.take k) f.id = -1 ∧ 1 ≤ f.id ∧ f.id ≤ 65535 ∧ f ∈ fs ∧ fs.take (k + 1) = fs.take k ++ [f] := by
  rw [List.getD_eq_getElem?_getD, List.getElem?_eq_getElem hk] at hf
  have hf' : fs[k] = f := hf
  have hm : f ∈ fs := hf' ▸ List.getElem_mem hk
  refine ⟨?_, (h.rng f hm).1, (h.rng f hm).2, hm, by rw [List.take_succ_eq_append_getElem hk, hf']⟩
  have hn : placeL (fs.take k) f.id < 0 := by
    rw [placeL_neg]
    intro hin
    obtain ⟨g, hg, hge⟩ := List.mem_map.1 hin
    obtain ⟨i, hi, rfl⟩ := List.getElem_of_mem hg
    rw [List.length_take] at hi
    rw [List.getElem_take] at hge
    have hnd := (List.pairwise_iff_getElem.1 h.ids) i k (by rw [List.length_map]; omega) (by rw [List.length_map]; omega) (by omega)
    simp only [List.getElem_map] at hnd
    rw [hf'] at hnd
    exact hnd hge
  rcases placeL_range (fs.take k) f.id with h1 | h1
  · exact h1
  · omega

theorem _root_.Go.Proofs.Ytjccmlmkcjmicaa.Win.WinAt'.lower3 {w : World} {base base' B : Nat} {ok : Nat → Prop} {s : WS} (h : WinAt' w base ok B s) (hb : base' ≤ base) : WinAt' w base' ok B s := by
  obtain ⟨vf, vw, bm, h⟩ := h
  exact ⟨vf, vw, bm, h.okB, h.okM, Nat.le_trans hb h.baseB, Nat.le_trans hb h.baseM, h.blk, Kd.R_lower h.flights hb, Kd.Q_lower h.waits hb, h.map⟩
/-- where Of stands: the window under way, the image's box -/
structure OfAt (w wr : World) (B Bm : Nat) (s : WS) (last : Int) (vF vQ : Value) : Prop where
  win : WinAt' wr w.heap.size (fun k => w.heap.size ≤ k ∧ k ≠ Bm) B s
  box : wr.heap[Bm]? = some (.cells #[.int .i64 last, vF, vQ] 85 (0, 0))
  bel : Below w.heap.size w wr
theorem OfAt.below {w wr X : World} {B Bm : Nat} {s : WS} {last : Int} {vF vQ : Value} (h : OfAt w wr B Bm s last vF vQ) (hb : Below wr.heap.size wr X) : OfAt w X B Bm s last vF vQ :=
  ⟨h.win.below hb, (hb.block Bm (blk_lt h.box)).trans h.box, h.bel.trans (hb.mono h.bel.size)⟩

theorem OfAt.fin {w wr : World} {B Bm : Nat} {s : WS} {last : Int} {vF vQ : Value} (h : OfAt w wr B Bm s last vF vQ) : WinAt' wr w.heap.size (fun k => w.heap.size ≤ k ∧ k < wr.heap.size) B s ∧ Below w.heap.size w wr := by
  obtain ⟨okb, hokb, hokbase, hokok, h'⟩ := h.win.bound2
  exact ⟨h'.mono (fun k hk => ⟨hokbase k hk, hokb k hk⟩), h.bel⟩
set_option maxRecDepth 100000 in
set_option maxHeartbeats 4000000 in
theorem of_any (n q last : Int) (AF AQ : Option Addr) (cF cQ : Nat) (fs : List Flt) (ms : List Msg) (w : World) (hF : kFlt.C w AF fs.length fs) (hQ : kMsg.C w AQ ms.length ms) (hg : ImgGood n q last fs ms) :
    Calls Try.prog 38 #[.int .i64 n, .int .i64 q, .agg #[.int .i64 last, .slice AF fs.length cF, .slice AQ ms.length cQ]] w fun e w' => ∃ B, e = .returned (.tuple #[.pointer (some ⟨B, 0, none⟩), .int .i64 0]) ∧
      WinAt' w' w.heap.size (fun k => w.heap.size ≤ k ∧ k < w'.heap.size) B (ofS n q last fs ms) ∧ Below w.heap.size w w' := by
  have HF := Aside0.mk hF
  have HQ := Aside0.mk hQ
  have HG := Aside0.mk hg
  have l0 := hg.l0
  have l1 := hg.l1
  have hfl : fs.length ≤ 65535 := by have := hg.fw; have := (newS_ok n q).w2; have h3 : (newS n q).window = clampI 1 65535 n := rfl; omega
  have hml : ms.length ≤ 65536 := by have := hg.mq; have := (newS_ok n q).q2; have h3 : (newS n q).queue = clampI 0 65536 q := rfl; omega
  clear hF hQ hg
  go_enter Try.func38, Try.ntmps38
  go_wp2_with fail
  have hb0 : Below w.heap.size w (w.alloc (.cells #[.int .i64 last, .slice AF fs.length cF, .slice AQ ms.length cQ] 85)) := (Below.refl _ _).alloc (Nat.le_refl _) _
  have hx0 := alloc_new w (.cells #[.int .i64 last, .slice AF fs.length cF, .slice AQ ms.length cQ] 85)
  have hsz0 : (w.alloc (.cells #[.int .i64 last, .slice AF fs.length cF, .slice AQ ms.length cQ] 85)).heap.size = w.heap.size + 1 := by simp
  generalize w.alloc (.cells #[.int .i64 last, .slice AF fs.length cF, .slice AQ ms.length cQ] 85) = wa at *
  refine (new_any n q wa).mono ?_
  rintro e w1 ⟨B, rfl, hw, hb⟩
  have H1 := Aside0.mk (show OfAt w w1 B w.heap.size (newS n q) last (.slice AF fs.length cF) (.slice AQ ms.length cQ) from
    ⟨(hw.lower3 (by omega)).mono (fun k hk => ⟨by omega, by omega⟩), (hb.block w.heap.size (by omega)).trans hx0, hb0.trans (hb.mono (by omega))⟩)
  clear hw hb hb0 hx0 hsz0
  obtain ⟨Bm, hBm⟩ : ∃ Bm, w.heap.size = Bm := ⟨_, rfl⟩
  have HBm := Aside0.mk hBm
  have H1 := Aside0.mk (show OfAt w w1 B Bm (newS n q) last (.slice AF fs.length cF) (.slice AQ ms.length cQ) from hBm ▸ H1.out)
  rw [hBm]
  have m0 : w1.cell? ⟨Bm, 0, none⟩ = some (.int .i64 last) := blk_cell H1.out.box 0
  obtain ⟨vf, vw, bm, hW⟩ := H1.out.win
  have cf2 := hW.cells.2.2.2.2.2.2.2 2
  have c2 := hW.cells.2.2.1
  have H2 := Aside0.mk (show OfAt w (w1.setCell ⟨B, 2, none⟩ (.int .i64 last)) B Bm (ofS n q last (fs.take 0) (ms.take 0)) last (.slice AF fs.length cF) (.slice AQ ms.length cQ) from
    ⟨⟨vf, vw, bm, hW.set 2 (.int .i64 last) (by simp [winCells, ofS, newS]) rfl rfl rfl⟩, (Below.heap_setCell w1 ⟨B, 2, none⟩ _ Bm (fun e => hW.okB.2 e.symm)).trans H1.out.box, H1.out.bel.setCell hW.baseB _⟩)
  have m0' : (w1.setCell ⟨B, 2, none⟩ (.int .i64 last)).cell? ⟨Bm, 1, none⟩ = some (.slice AF fs.length cF) := blk_cell H2.out.box 1
  clear hW hBm H1
  go_wp2_with fail
  clear m0 cf2 c2 m0'
  go_loopg [32] fs.length (fun q' i wr => ∃ k : Nat, k + q' = fs.length ∧ i = .int .i64 (k : Int) ∧ Aside0 (OfAt w wr B Bm (ofS n q last (fs.take k) (ms.take 0)) last (.slice AF fs.length cF) (.slice AQ ms.length cQ)))
  case atStart => exact ⟨0, by omega, rfl, H2⟩
  case round =>
    clear H2
    obtain ⟨k, hk, rfl, H⟩ := hrel
    have HK := Aside0.mk hk
    clear hk
    by_cases hlt : k < fs.length
    · skip
      --BEG
      have hk1 : (k : Int) < fs.length := by omega
      have hk0 : (k : Int) ≤ 65535 := by omega
      obtain ⟨ad, Ap, cp, hAd, f0, f1, f2, f3, f4, f5, hcp, hpC⟩ := flt_at (Kd.C_below HF.out H.out.bel) k hlt
      subst hAd
      obtain ⟨f, hf⟩ : ∃ f, fs.getD k noFlt = f := ⟨_, rfl⟩
      obtain ⟨hpl, hr1, hr2, hmem, htk⟩ := of_new HG.out k hlt hf
      rw [hf] at f0 f1 f2 f3 f4 f5 hcp hpC
      have HRL := Aside0.mk (And.intro (HG.out.rel f hmem) (And.intro (HG.out.unr f hmem) (HG.out.sf f hmem)))
      have HTK := Aside0.mk htk
      have HKL := Aside0.mk hlt
      clear hf hmem htk hlt
      obtain ⟨fid, ⟨t, pp, qq, rt⟩, rel⟩ := f
      dsimp only at *
      go_upto_region 8 with fail
      have HP := Aside0.mk (alloc_new wr (.cells #[.int .i64 fid, .string t, .slice Ap pp.length cp, .int .i64 qq, .bool rt, .bool rel] 82))
      have H3 := Aside0.mk (H.out.below ((Below.refl wr.heap.size wr).alloc (Nat.le_refl _) (.cells #[.int .i64 fid, .string t, .slice Ap pp.length cp, .int .i64 qq, .bool rt, .bool rel] 82)))
      have HC3 := Aside0.mk (Kd.C_alloc hpC (.cells #[.int .i64 fid, .string t, .slice Ap pp.length cp, .int .i64 qq, .bool rt, .bool rel] 82))
      have HWR := Aside0.mk H.out.win
      have hszr : (wr.alloc (.cells #[.int .i64 fid, .string t, .slice Ap pp.length cp, .int .i64 qq, .bool rt, .bool rel] 82)).heap.size = wr.heap.size + 1 := by simp
      clear f0 f1 f2 f3 f4 f5 hpC H
      generalize wr.alloc (.cells #[.int .i64 fid, .string t, .slice Ap pp.length cp, .int .i64 qq, .bool rt, .bool rel] 82) = Y at *
      obtain ⟨Pb, hPb⟩ : ∃ Pb, wr.heap.size = Pb := ⟨_, rfl⟩
      rw [hPb] at HP hszr ⊢
      have HPB0 := Aside0.mk hPb
      clear hPb
      have e0 : Y.cell? ⟨Pb, 0, none⟩ = some (.int .i64 fid) := blk_cell HP.out 0
      have e1 : Y.cell? ⟨Pb, 1, none⟩ = some (.string t) := blk_cell HP.out 1
      have e2 : Y.cell? ⟨Pb, 2, none⟩ = some (.slice Ap pp.length cp) := blk_cell HP.out 2
      have e3 : Y.cell? ⟨Pb, 3, none⟩ = some (.int .i64 qq) := blk_cell HP.out 3
      have e4 : Y.cell? ⟨Pb, 4, none⟩ = some (.bool rt) := blk_cell HP.out 4
      have e5 : Y.cell? ⟨Pb, 5, none⟩ = some (.bool rel) := blk_cell HP.out 5
      have HPL := Aside0.mk (place_any H3.out.win (show (ofS n q last (fs.take k) (ms.take 0)).flights.length ≤ 65536 from (ofS_ok HG.out k 0).fl) fid)
      rw [show placeL (ofS n q last (fs.take k) (ms.take 0)).flights fid = -1 from hpl] at HPL
      have i1 : decide (fid < 1) = false := decide_eq_false (by omega)
      have i2 : decide (fid > 65535) = false := decide_eq_false (by omega)
      clear hpl hr1 hr2
      go_wp2_with fail
      refine HPL.out.mono ?_
      rintro e X1 ⟨rfl, hb1⟩
      have H4 := Aside0.mk (H3.out.below hb1)
      have HP4 := Aside0.mk ((hb1.block Pb (by omega)).trans HP.out)
      have HC4 := Aside0.mk (Kd.C_below HC3.out hb1)
      have hsz4 : Pb < X1.heap.size := by have := hb1.size; omega
      clear hb1 HPL H3 HP HC3 e0 e1 e2 e3 e4 e5 hszr
      have e1 : X1.cell? ⟨Pb, 1, none⟩ = some (.string t) := blk_cell HP4.out 1
      have e2 : X1.cell? ⟨Pb, 2, none⟩ = some (.slice Ap pp.length cp) := blk_cell HP4.out 2
      have e3 : X1.cell? ⟨Pb, 3, none⟩ = some (.int .i64 qq) := blk_cell HP4.out 3
      have e4 : X1.cell? ⟨Pb, 4, none⟩ = some (.bool rt) := blk_cell HP4.out 4
      have e5 : X1.cell? ⟨Pb, 5, none⟩ = some (.bool rel) := blk_cell HP4.out 5
      have HZ := Aside0.mk (fun (h : rel = true) => Go.Proofs.Ytjccmlmkcjmicaa.PWindowLater.window_zero.calls t Ap cp pp qq rt true X1 HC4.out hcp (by
        have hm := HRL.out.1 h
        injection hm with h1 h2 h3 h4
        subst h1 h2 h3 h4
        unfold Go.Proofs.Ytjccmlmkcjmicaa.PWindowLater.window_zero.f
        rw [if_pos (by simp)]
        rw [nil_toList]
        rfl))
      have HS := Aside0.mk (fun (h : rel = false) => sendable_any ⟨t, pp, qq, rt⟩ (.slice Ap pp.length cp) X1)
      have HSB := Aside0.mk (fun (h : rel = false) => HRL.out.2.1 h)
      cases rel
      · skip
        have hsd := HS.out rfl
        rw [HSB.out rfl] at hsd
        have HSD := Aside0.mk hsd
        clear hsd HS HZ HSB
        go_wp2_with fail
        refine HSD.out.mono ?_
        rintro e X ⟨rfl, hb5⟩
        have H5 := Aside0.mk (H4.out.below hb5)
        have HP5 := Aside0.mk ((hb5.block Pb hsz4).trans HP4.out)
        have HC5 := Aside0.mk (Kd.C_below HC4.out hb5)
        have hPl : Pb < X.heap.size := by have := hb5.size; omega
        clear hb5 HSD H4 HP4 HC4 e1 e2 e3 e4 e5 hsz4
        have q5 : X.cell? ⟨Pb, 5, none⟩ = some (.bool false) := blk_cell HP5.out 5
        go_upto_region 10 with fail
        obtain ⟨vf, vw, bm, hW⟩ := H5.out.win
        obtain ⟨Af, cf, hvf⟩ := Kd.R_slice hW.flights
        obtain ⟨nk, hnk⟩ : ∃ nk, nk = (ofS n q last (fs.take k) (ms.take 0)).flights.length := ⟨_, rfl⟩
        rw [← hnk] at hvf
        clear hnk
        subst hvf
        have HW := Aside0.mk hW
        have HPB := HP5
        have HBE := Aside0.mk H5.out.bel
        have HBX := Aside0.mk H5.out.box
        have hBml : Bm < X.heap.size := blk_lt H5.out.box
        have hBmw : w.heap.size ≤ Bm := by have := HBm.out; omega
        have d3 : X.cell? ⟨B, 3, none⟩ = some (.slice Af nk cf) := blk_cell hW.blk 3
        have b0 : X.cell? ⟨Pb, 0, none⟩ = some (.int .i64 fid) := blk_cell HP5.out 0
        have b1 : X.cell? ⟨Pb, 1, none⟩ = some (.string t) := blk_cell HP5.out 1
        have b2 : X.cell? ⟨Pb, 2, none⟩ = some (.slice Ap pp.length cp) := blk_cell HP5.out 2
        have b3 : X.cell? ⟨Pb, 3, none⟩ = some (.int .i64 qq) := blk_cell HP5.out 3
        have b4 : X.cell? ⟨Pb, 4, none⟩ = some (.bool rt) := blk_cell HP5.out 4
        have b5 : X.cell? ⟨Pb, 5, none⟩ = some (.bool false) := blk_cell HP5.out 5
        have HOwn := Aside0.mk (own_any ⟨t, pp, qq, rt⟩ Ap cp X.drew (Kd.C_drew HC5.out) HRL.out.2.2)
        clear hW HC5 HRL
        refine start_ (n := 18) (S := fun w' => w'.cell? ⟨Pb, 0, none⟩ = some (.int .i64 fid) ∧ w'.cell? ⟨Pb, 1, none⟩ = some (.string t) ∧ w'.cell? ⟨Pb, 2, none⟩ = some (.slice Ap pp.length cp) ∧ w'.cell? ⟨Pb, 3, none⟩ = some (.int .i64 qq) ∧ w'.cell? ⟨Pb, 4, none⟩ = some (.bool rt) ∧ w'.cell? ⟨Pb, 5, none⟩ = some (.bool false) ∧ w'.cell? ⟨B, 3, none⟩ = some (.slice Af nk cf)) (ds := [17]) #[false, false, false, false, false, false, false, false, false, false, false, false, false, false, false, false, false, false] (by kernel_rfl) rfl rfl ⟨b0, b1, b2, b3, b4, b5, d3⟩ (fun hHeld => ?_)
        refine pure_ (i := 0) (N := some 72) (v := ?_) (a' := ?_) #[true, false, false, false, false, false, false, false, false, false, false, false, false, false, false, false, false, false] rfl rfl (by kernel_rfl) (fun _ _ _ h => h) (Or.inl ⟨by rfl, ?_⟩) ?_ ?_
        rotate_left
        · intro w'
          go_simp
          with_reducible rfl
        rotate_left
        · simp only [Act.put, List.setIfInBounds_toArray, List.set_cons_zero, List.set_cons_succ, i64_w, i32_w]
          rfl
        refine pure_ (i := 1) (N := some 73) (v := ?_) (a' := ?_) #[true, true, false, false, false, false, false, false, false, false, false, false, false, false, false, false, false, false] rfl rfl (by kernel_rfl) (fun _ _ _ h => h) (Or.inl ⟨by rfl, ?_⟩) ?_ ?_
        rotate_left
        · intro w'
          go_simp
          with_reducible rfl
        rotate_left
        · simp only [Act.put, List.setIfInBounds_toArray, List.set_cons_zero, List.set_cons_succ, i64_w, i32_w]
          rfl
        refine pure_ (i := 2) (N := some 74) (v := ?_) (a' := ?_) #[true, true, true, false, false, false, false, false, false, false, false, false, false, false, false, false, false, false] rfl rfl (by kernel_rfl) (fun _ _ _ h => h) (Or.inl ⟨by rfl, ?_⟩) ?_ ?_
        rotate_left
        · intro w'
          go_simp
          with_reducible rfl
        rotate_left
        · simp only [Act.put, List.setIfInBounds_toArray, List.set_cons_zero, List.set_cons_succ, i64_w, i32_w]
          rfl
        refine pure_ (i := 3) (N := some 75) (v := ?_) (a' := ?_) #[true, true, true, true, false, false, false, false, false, false, false, false, false, false, false, false, false, false] rfl rfl (by kernel_rfl) (fun _ _ _ h => h) (Or.inl ⟨by rfl, ?_⟩) ?_ ?_
        rotate_left
        · intro w'
          go_simp
          with_reducible rfl
        rotate_left
        · simp only [Act.put, List.setIfInBounds_toArray, List.set_cons_zero, List.set_cons_succ, i64_w, i32_w]
          rfl
        refine pure_ (i := 5) (N := some 77) (v := ?_) (a' := ?_) #[true, true, true, true, false, true, false, false, false, false, false, false, false, false, false, false, false, false] rfl rfl (by kernel_rfl) (fun _ _ _ h => h) (Or.inl ⟨by rfl, ?_⟩) ?_ ?_
        rotate_left
        · intro w'
          go_simp
          with_reducible rfl
        rotate_left
        · simp only [Act.put, List.setIfInBounds_toArray, List.set_cons_zero, List.set_cons_succ, i64_w, i32_w]
          rfl
        refine pure_ (i := 7) (N := some 79) (v := ?_) (a' := ?_) #[true, true, true, true, false, true, false, true, false, false, false, false, false, false, false, false, false, false] rfl rfl (by kernel_rfl) (fun _ _ _ h => h) (Or.inl ⟨by rfl, ?_⟩) ?_ ?_
        rotate_left
        · intro w'
          go_simp
          with_reducible rfl
        rotate_left
        · simp only [Act.put, List.setIfInBounds_toArray, List.set_cons_zero, List.set_cons_succ, i64_w, i32_w]
          rfl
        refine pure_ (i := 10) (N := some 82) (v := ?_) (a' := ?_) #[true, true, true, true, false, true, false, true, false, false, true, false, false, false, false, false, false, false] rfl rfl (by kernel_rfl) (fun _ _ _ h => h) (Or.inl ⟨by rfl, ?_⟩) ?_ ?_
        rotate_left
        · intro w'
          go_simp
          with_reducible rfl
        rotate_left
        · simp only [Act.put, List.setIfInBounds_toArray, List.set_cons_zero, List.set_cons_succ, i64_w, i32_w]
          rfl
        refine take_ (i := 4) (N := some 76) (v := ?_) (a' := ?_) #[true, true, true, true, true, true, false, true, false, false, true, false, false, false, false, false, false, false] rfl rfl (by kernel_rfl) (fun _ _ _ h => h) (Or.inl ⟨by rfl, ?_⟩) hHeld ?_ ?_
        rotate_left
        · rintro w' ⟨s0, s1, s2, s3, s4, s5, s6⟩
          go_simp
          with_reducible rfl
        rotate_left
        · simp only [Act.put, List.setIfInBounds_toArray, List.set_cons_zero, List.set_cons_succ, i64_w, i32_w]
          rfl
        refine take_ (i := 6) (N := some 78) (v := ?_) (a' := ?_) #[true, true, true, true, true, true, true, true, false, false, true, false, false, false, false, false, false, false] rfl rfl (by kernel_rfl) (fun _ _ _ h => h) (Or.inl ⟨by rfl, ?_⟩) hHeld ?_ ?_
        rotate_left
        · rintro w' ⟨s0, s1, s2, s3, s4, s5, s6⟩
          go_simp
          with_reducible rfl
        rotate_left
        · simp only [Act.put, List.setIfInBounds_toArray, List.set_cons_zero, List.set_cons_succ, i64_w, i32_w]
          rfl
        refine take_ (i := 8) (N := some 80) (v := ?_) (a' := ?_) #[true, true, true, true, true, true, true, true, true, false, true, false, false, false, false, false, false, false] rfl rfl (by kernel_rfl) (fun _ _ _ h => h) (Or.inl ⟨by rfl, ?_⟩) hHeld ?_ ?_
        rotate_left
        · rintro w' ⟨s0, s1, s2, s3, s4, s5, s6⟩
          go_simp
          with_reducible rfl
        rotate_left
        · simp only [Act.put, List.setIfInBounds_toArray, List.set_cons_zero, List.set_cons_succ, i64_w, i32_w]
          rfl
        refine take_ (i := 11) (N := some 83) (v := ?_) (a' := ?_) #[true, true, true, true, true, true, true, true, true, false, true, true, false, false, false, false, false, false] rfl rfl (by kernel_rfl) (fun _ _ _ h => h) (Or.inl ⟨by rfl, ?_⟩) hHeld ?_ ?_
        rotate_left
        · rintro w' ⟨s0, s1, s2, s3, s4, s5, s6⟩
          go_simp
          with_reducible rfl
        rotate_left
        · simp only [Act.put, List.setIfInBounds_toArray, List.set_cons_zero, List.set_cons_succ, i64_w, i32_w]
          rfl
        refine one_ (i := 9) (N := some 81) #[true, true, true, true, true, true, true, true, true, true, true, true, false, false, false, false, false, false] rfl rfl (by kernel_rfl) (by decide) (fun K hK => ?_)
        refine goes_ Try.func65 (by kernel_rfl) rfl #[.agg #[.string t, .slice Ap pp.length cp, .int .i64 qq, .bool rt]] (by rfl) rfl rfl (by simp only [List.map_toArray, List.map_cons, List.map_nil]; rfl) ?_
        with_reducible refine (HOwn.out).mono ?_
        rintro e w3 ⟨A', c', rfl, hR, hb⟩
        refine ⟨_, rfl, ?_⟩
        have HW3 := Aside0.mk (HW.out.below ((below_drew (Below.refl X.heap.size X)).trans (hb.mono (show X.heap.size ≤ X.drew.heap.size from Nat.le_refl _))))
        have HB3b := Aside0.mk ((HBE.out.trans ((below_drew (Below.refl X.heap.size X)).mono HBE.out.size)).trans (hb.mono (show w.heap.size ≤ X.drew.heap.size from HBE.out.size)))
        have HR3 := Aside0.mk hR
        have HP3 := Aside0.mk ((hb.block Pb hPl).trans HPB.out)
        have HP3b := Aside0.mk (hb.block Bm hBml)
        have z0 := (hb.cell (p := ⟨Pb, 0, none⟩) hPl).trans b0
        have z1 := (hb.cell (p := ⟨Pb, 1, none⟩) hPl).trans b1
        have z2 := (hb.cell (p := ⟨Pb, 2, none⟩) hPl).trans b2
        have z3 := (hb.cell (p := ⟨Pb, 3, none⟩) hPl).trans b3
        have z4 := (hb.cell (p := ⟨Pb, 4, none⟩) hPl).trans b4
        have z5 := (hb.cell (p := ⟨Pb, 5, none⟩) hPl).trans b5
        have e3 : w3.cell? ⟨B, 3, none⟩ = some (.slice Af nk cf) := blk_cell HW3.out.blk 3
        have hsz3 : X.heap.size ≤ w3.heap.size := hb.size
        clear hR hb
        refine hK.out _ _ ⟨z0, z1, z2, z3, z4, z5, e3⟩ (fun hHeld => ?_)
        clear hK K
        refine norm_ (a' := ?_) ?_ ?_
        rotate_left
        · show Act.put _ (some 81) _ = _
          simp only [Act.put, List.setIfInBounds_toArray, List.set_cons_zero, List.set_cons_succ, i64_w, i32_w]
          rfl
        refine pure_ (i := 12) (N := some 84) (v := ?_) (a' := ?_) #[true, true, true, true, true, true, true, true, true, true, true, true, true, false, false, false, false, false] rfl rfl (by kernel_rfl) (fun _ _ _ h => h) (Or.inl ⟨by rfl, ?_⟩) ?_ ?_
        rotate_left
        · intro w'
          go_simp
          with_reducible rfl
        rotate_left
        · simp only [Act.put, List.setIfInBounds_toArray, List.set_cons_zero, List.set_cons_succ, i64_w, i32_w]
          rfl
        refine one_ (i := 13) (N := some 85) #[true, true, true, true, true, true, true, true, true, true, true, true, true, true, false, false, false, false] rfl rfl (by kernel_rfl) (by decide) (fun K hK => ?_)
        refine value_ (w1 := ?_) (v := ?_) (by rfl) rfl ?_ ?_
        rotate_left 2
        · go_simp
          constructor
          · rfl
          · rfl
        refine hK.out _ _ ⟨(World.cell?_alloc_past _ _ _ (blk_lt HP3.out)).trans z0, (World.cell?_alloc_past _ _ _ (blk_lt HP3.out)).trans z1, (World.cell?_alloc_past _ _ _ (blk_lt HP3.out)).trans z2, (World.cell?_alloc_past _ _ _ (blk_lt HP3.out)).trans z3, (World.cell?_alloc_past _ _ _ (blk_lt HP3.out)).trans z4, (World.cell?_alloc_past _ _ _ (blk_lt HP3.out)).trans z5, (World.cell?_alloc_past _ _ _ (blk_lt HW3.out.blk)).trans e3⟩ (fun hHeld => ?_)
        clear hK K
        refine norm_ (a' := ?_) ?_ ?_
        rotate_left
        · show Act.put _ (some 85) _ = _
          simp only [Act.put, List.setIfInBounds_toArray, List.set_cons_zero, List.set_cons_succ, i64_w, i32_w]
          rfl
        refine one_ (i := 14) (N := some 86) #[true, true, true, true, true, true, true, true, true, true, true, true, true, true, true, false, false, false] rfl rfl (by kernel_rfl) (by decide) (fun K hK => ?_)
        refine Kd.R_append_step kFlt (w0 := w) w.heap.size (by rfl) (.tmp 76) (.tmp 85) 101 112 (.agg #[.int .i64 0, .string ⟨#[]⟩, .slice none 0 0, .int .i64 0, .bool false, .bool false]) 72 (by rfl) Try.underlying101 infoFlt (by rfl) (by decide) (by omega) (.slice Af nk cf) (fs.take k) ⟨fid, ⟨t, pp, qq, rt⟩, false⟩ [.int .i64 fid, .string t, .slice A' pp.length c', .int .i64 qq, .bool rt, .bool false] (fun k => w.heap.size ≤ k ∧ k ≠ Bm) (fun k => X.heap.size ≤ k) (by rfl) (by rfl) ?hp ?hokp ?hfresh ?HO ?HB ?hbase ?hl ?_
        case hp => exact flt_M_mk (f := ⟨fid, ⟨t, pp, qq, rt⟩, false⟩) (Kd.R_lower HR3.out HBE.out.size)
        case hokp => exact fun k hk => ⟨⟨Nat.le_trans HBE.out.size hk, by omega⟩, fun e => by have := Kd.R_lt HW.out.flights k e.symm; omega⟩
        case hfresh => exact fun k hk => ⟨by have := HBE.out.size; omega, by omega⟩
        case HO => exact HW3.out.flights
        case HB => exact HB3b.out
        case hbase => exact HB3b.out.size
        case hl => simp only [List.length_take]; omega
        intro v1 w5 hq hbl hg hat
        obtain ⟨A1, c1, hev⟩ := Kd.R_slice hq
        obtain ⟨N1, hN1⟩ : ∃ N1, N1 = ((fs.take k) ++ [(⟨fid, ⟨t, pp, qq, rt⟩, false⟩ : Flt)]).length := ⟨_, rfl⟩
        rw [← hN1] at hev
        subst hev
        clear hN1
        have HW5 := Aside0.mk (WinAt.fly (ok' := fun k => w.heap.size ≤ k ∧ k ≠ Bm) HW3.out hq hg (fun k hk => hk))
        have HX5 := Aside0.mk (And.intro hbl (blk_grown ((HP3b.out).trans HBX.out) hg (fun e => (HW3.out.flights.1 Bm e.symm).2 rfl)))
        have g1 : w5.cell? ⟨B, 3, none⟩ = some (.slice Af nk cf) := blk_cell (blk_grown HW3.out.blk hg (Kd.R_ne HW3.out.flights HW3.out.blk (by decide))) 3
        have g2 : w5.frozen? ⟨B, 3, none⟩ = false := blk_frozen (blk_grown HW3.out.blk hg (Kd.R_ne HW3.out.flights HW3.out.blk (by decide))) 3
        have hb5 := blk_grown HP3.out hg (Kd.R_ne HW3.out.flights HP3.out (by decide))
        refine hK.out _ _ ⟨blk_cell hb5 0, blk_cell hb5 1, blk_cell hb5 2, blk_cell hb5 3, blk_cell hb5 4, blk_cell hb5 5, g1⟩ (fun hHeld => ?_)
        clear hK K
        refine norm_ (a' := ?_) ?_ ?_
        rotate_left
        · show Act.put _ (some 86) _ = _
          simp only [Act.put, List.setIfInBounds_toArray, List.set_cons_zero, List.set_cons_succ, i64_w, i32_w]
          rfl
        refine pure_ (i := 15) (N := some 87) (v := ?_) (a' := ?_) #[true, true, true, true, true, true, true, true, true, true, true, true, true, true, true, true, false, false] rfl rfl (by kernel_rfl) (fun _ _ _ h => h) (Or.inl ⟨by rfl, ?_⟩) ?_ ?_
        rotate_left
        · intro w'
          go_simp
          with_reducible rfl
        rotate_left
        · simp only [Act.put, List.setIfInBounds_toArray, List.set_cons_zero, List.set_cons_succ, i64_w, i32_w]
          rfl
        refine pure_ (i := 16) (N := some 88) (v := ?_) (a' := ?_) #[true, true, true, true, true, true, true, true, true, true, true, true, true, true, true, true, true, false] rfl rfl (by kernel_rfl) (fun _ _ _ h => h) (Or.inl ⟨by rfl, ?_⟩) ?_ ?_
        rotate_left
        · intro w'
          go_simp
          with_reducible rfl
        rotate_left
        · simp only [Act.put, List.setIfInBounds_toArray, List.set_cons_zero, List.set_cons_succ, i64_w, i32_w]
          rfl
        refine last_ (i := 17) (N := none) #[true, true, true, true, true, true, true, true, true, true, true, true, true, true, true, true, true, true] rfl rfl (by kernel_rfl) (by decide) (fun K hK => ?_)
        refine skip_ (w1 := ?_) (by rfl) rfl ?_ ?_
        rotate_left
        · go_simp
          rfl
        refine hK.out _ _ ?_
        clear hK K
        refine done_ (by kernel_rfl) ?_
        have HS5 := Aside0.mk (show OfAt w (w5.setCell ⟨B, 3, none⟩ (.slice A1 N1 c1)) B Bm (ofS n q last (fs.take (k + 1)) (ms.take 0)) last (.slice (some ad) fs.length cF) (.slice AQ ms.length cQ) from by
          rw [HTK.out]
          exact ⟨⟨_, _, _, HW5.out⟩, (Below.heap_setCell w5 ⟨B, 3, none⟩ _ Bm (fun e => HW5.out.okB.2 e.symm)).trans HX5.out.2, HX5.out.1.setCell HW5.out.baseB _⟩)
        clear hHeld HW5 HX5
        go_wp2_with fail
        go_roundg (fs.length - (k + 1))
        case measure => have := HK.out; have := HKL.out; omega
        case rel => exact ⟨k + 1, by have := HKL.out; omega, by go_num, HS5⟩
      · skip
        have HSD := Aside0.mk (HZ.out (by first | rfl | trivial))
        clear HS HZ HSB
        go_wp2_with fail
        refine HSD.out.mono ?_
        rintro e X ⟨rfl, hb5⟩
        have H5 := Aside0.mk (H4.out.below hb5)
        have HP5 := Aside0.mk ((hb5.block Pb hsz4).trans HP4.out)
        have HC5 := Aside0.mk (Kd.C_below HC4.out hb5)
        have hPl : Pb < X.heap.size := by have := hb5.size; omega
        clear hb5 HSD H4 HP4 HC4 e1 e2 e3 e4 e5 hsz4
        have q5 : X.cell? ⟨Pb, 5, none⟩ = some (.bool true) := blk_cell HP5.out 5
        go_upto_region 10 with fail
        obtain ⟨vf, vw, bm, hW⟩ := H5.out.win
        obtain ⟨Af, cf, hvf⟩ := Kd.R_slice hW.flights
        obtain ⟨nk, hnk⟩ : ∃ nk, nk = (ofS n q last (fs.take k) (ms.take 0)).flights.length := ⟨_, rfl⟩
        rw [← hnk] at hvf
        clear hnk
        subst hvf
        have HW := Aside0.mk hW
        have HPB := HP5
        have HBE := Aside0.mk H5.out.bel
        have HBX := Aside0.mk H5.out.box
        have hBml : Bm < X.heap.size := blk_lt H5.out.box
        have hBmw : w.heap.size ≤ Bm := by have := HBm.out; omega
        have d3 : X.cell? ⟨B, 3, none⟩ = some (.slice Af nk cf) := blk_cell hW.blk 3
        have b0 : X.cell? ⟨Pb, 0, none⟩ = some (.int .i64 fid) := blk_cell HP5.out 0
        have b1 : X.cell? ⟨Pb, 1, none⟩ = some (.string t) := blk_cell HP5.out 1
        have b2 : X.cell? ⟨Pb, 2, none⟩ = some (.slice Ap pp.length cp) := blk_cell HP5.out 2
        have b3 : X.cell? ⟨Pb, 3, none⟩ = some (.int .i64 qq) := blk_cell HP5.out 3
        have b4 : X.cell? ⟨Pb, 4, none⟩ = some (.bool rt) := blk_cell HP5.out 4
        have b5 : X.cell? ⟨Pb, 5, none⟩ = some (.bool true) := blk_cell HP5.out 5
        have HOwn := Aside0.mk (own_any ⟨t, pp, qq, rt⟩ Ap cp X.drew (Kd.C_drew HC5.out) HRL.out.2.2)
        clear hW HC5 HRL
        refine start_ (n := 18) (S := fun w' => w'.cell? ⟨Pb, 0, none⟩ = some (.int .i64 fid) ∧ w'.cell? ⟨Pb, 1, none⟩ = some (.string t) ∧ w'.cell? ⟨Pb, 2, none⟩ = some (.slice Ap pp.length cp) ∧ w'.cell? ⟨Pb, 3, none⟩ = some (.int .i64 qq) ∧ w'.cell? ⟨Pb, 4, none⟩ = some (.bool rt) ∧ w'.cell? ⟨Pb, 5, none⟩ = some (.bool true) ∧ w'.cell? ⟨B, 3, none⟩ = some (.slice Af nk cf)) (ds := [17]) #[false, false, false, false, false, false, false, false, false, false, false, false, false, false, false, false, false, false] (by kernel_rfl) rfl rfl ⟨b0, b1, b2, b3, b4, b5, d3⟩ (fun hHeld => ?_)
        refine pure_ (i := 0) (N := some 72) (v := ?_) (a' := ?_) #[true, false, false, false, false, false, false, false, false, false, false, false, false, false, false, false, false, false] rfl rfl (by kernel_rfl) (fun _ _ _ h => h) (Or.inl ⟨by rfl, ?_⟩) ?_ ?_
        rotate_left
        · intro w'
          go_simp
          with_reducible rfl
        rotate_left
        · simp only [Act.put, List.setIfInBounds_toArray, List.set_cons_zero, List.set_cons_succ, i64_w, i32_w]
          rfl
        refine pure_ (i := 1) (N := some 73) (v := ?_) (a' := ?_) #[true, true, false, false, false, false, false, false, false, false, false, false, false, false, false, false, false, false] rfl rfl (by kernel_rfl) (fun _ _ _ h => h) (Or.inl ⟨by rfl, ?_⟩) ?_ ?_
        rotate_left
        · intro w'
          go_simp
          with_reducible rfl
        rotate_left
        · simp only [Act.put, List.setIfInBounds_toArray, List.set_cons_zero, List.set_cons_succ, i64_w, i32_w]
          rfl
        refine pure_ (i := 2) (N := some 74) (v := ?_) (a' := ?_) #[true, true, true, false, false, false, false, false, false, false, false, false, false, false, false, false, false, false] rfl rfl (by kernel_rfl) (fun _ _ _ h => h) (Or.inl ⟨by rfl, ?_⟩) ?_ ?_
        rotate_left
        · intro w'
          go_simp
          with_reducible rfl
        rotate_left
        · simp only [Act.put, List.setIfInBounds_toArray, List.set_cons_zero, List.set_cons_succ, i64_w, i32_w]
          rfl
        refine pure_ (i := 3) (N := some 75) (v := ?_) (a' := ?_) #[true, true, true, true, false, false, false, false, false, false, false, false, false, false, false, false, false, false] rfl rfl (by kernel_rfl) (fun _ _ _ h => h) (Or.inl ⟨by rfl, ?_⟩) ?_ ?_
        rotate_left
        · intro w'
          go_simp
          with_reducible rfl
        rotate_left
        · simp only [Act.put, List.setIfInBounds_toArray, List.set_cons_zero, List.set_cons_succ, i64_w, i32_w]
          rfl
        refine pure_ (i := 5) (N := some 77) (v := ?_) (a' := ?_) #[true, true, true, true, false, true, false, false, false, false, false, false, false, false, false, false, false, false] rfl rfl (by kernel_rfl) (fun _ _ _ h => h) (Or.inl ⟨by rfl, ?_⟩) ?_ ?_
        rotate_left
        · intro w'
          go_simp
          with_reducible rfl
        rotate_left
        · simp only [Act.put, List.setIfInBounds_toArray, List.set_cons_zero, List.set_cons_succ, i64_w, i32_w]
          rfl
        refine pure_ (i := 7) (N := some 79) (v := ?_) (a' := ?_) #[true, true, true, true, false, true, false, true, false, false, false, false, false, false, false, false, false, false] rfl rfl (by kernel_rfl) (fun _ _ _ h => h) (Or.inl ⟨by rfl, ?_⟩) ?_ ?_
        rotate_left
        · intro w'
          go_simp
          with_reducible rfl
        rotate_left
        · simp only [Act.put, List.setIfInBounds_toArray, List.set_cons_zero, List.set_cons_succ, i64_w, i32_w]
          rfl
        refine pure_ (i := 10) (N := some 82) (v := ?_) (a' := ?_) #[true, true, true, true, false, true, false, true, false, false, true, false, false, false, false, false, false, false] rfl rfl (by kernel_rfl) (fun _ _ _ h => h) (Or.inl ⟨by rfl, ?_⟩) ?_ ?_
        rotate_left
        · intro w'
          go_simp
          with_reducible rfl
        rotate_left
        · simp only [Act.put, List.setIfInBounds_toArray, List.set_cons_zero, List.set_cons_succ, i64_w, i32_w]
          rfl
        refine take_ (i := 4) (N := some 76) (v := ?_) (a' := ?_) #[true, true, true, true, true, true, false, true, false, false, true, false, false, false, false, false, false, false] rfl rfl (by kernel_rfl) (fun _ _ _ h => h) (Or.inl ⟨by rfl, ?_⟩) hHeld ?_ ?_
        rotate_left
        · rintro w' ⟨s0, s1, s2, s3, s4, s5, s6⟩
          go_simp
          with_reducible rfl
        rotate_left
        · simp only [Act.put, List.setIfInBounds_toArray, List.set_cons_zero, List.set_cons_succ, i64_w, i32_w]
          rfl
        refine take_ (i := 6) (N := some 78) (v := ?_) (a' := ?_) #[true, true, true, true, true, true, true, true, false, false, true, false, false, false, false, false, false, false] rfl rfl (by kernel_rfl) (fun _ _ _ h => h) (Or.inl ⟨by rfl, ?_⟩) hHeld ?_ ?_
        rotate_left
        · rintro w' ⟨s0, s1, s2, s3, s4, s5, s6⟩
          go_simp
          with_reducible rfl
        rotate_left
        · simp only [Act.put, List.setIfInBounds_toArray, List.set_cons_zero, List.set_cons_succ, i64_w, i32_w]
          rfl
        refine take_ (i := 8) (N := some 80) (v := ?_) (a' := ?_) #[true, true, true, true, true, true, true, true, true, false, true, false, false, false, false, false, false, false] rfl rfl (by kernel_rfl) (fun _ _ _ h => h) (Or.inl ⟨by rfl, ?_⟩) hHeld ?_ ?_
        rotate_left
        · rintro w' ⟨s0, s1, s2, s3, s4, s5, s6⟩
          go_simp
          with_reducible rfl
        rotate_left
        · simp only [Act.put, List.setIfInBounds_toArray, List.set_cons_zero, List.set_cons_succ, i64_w, i32_w]
          rfl
        refine take_ (i := 11) (N := some 83) (v := ?_) (a' := ?_) #[true, true, true, true, true, true, true, true, true, false, true, true, false, false, false, false, false, false] rfl rfl (by kernel_rfl) (fun _ _ _ h => h) (Or.inl ⟨by rfl, ?_⟩) hHeld ?_ ?_
        rotate_left
        · rintro w' ⟨s0, s1, s2, s3, s4, s5, s6⟩
          go_simp
          with_reducible rfl
        rotate_left
        · simp only [Act.put, List.setIfInBounds_toArray, List.set_cons_zero, List.set_cons_succ, i64_w, i32_w]
          rfl
        refine one_ (i := 9) (N := some 81) #[true, true, true, true, true, true, true, true, true, true, true, true, false, false, false, false, false, false] rfl rfl (by kernel_rfl) (by decide) (fun K hK => ?_)
        refine goes_ Try.func65 (by kernel_rfl) rfl #[.agg #[.string t, .slice Ap pp.length cp, .int .i64 qq, .bool rt]] (by rfl) rfl rfl (by simp only [List.map_toArray, List.map_cons, List.map_nil]; rfl) ?_
        with_reducible refine (HOwn.out).mono ?_
        rintro e w3 ⟨A', c', rfl, hR, hb⟩
        refine ⟨_, rfl, ?_⟩
        have HW3 := Aside0.mk (HW.out.below ((below_drew (Below.refl X.heap.size X)).trans (hb.mono (show X.heap.size ≤ X.drew.heap.size from Nat.le_refl _))))
        have HB3b := Aside0.mk ((HBE.out.trans ((below_drew (Below.refl X.heap.size X)).mono HBE.out.size)).trans (hb.mono (show w.heap.size ≤ X.drew.heap.size from HBE.out.size)))
        have HR3 := Aside0.mk hR
        have HP3 := Aside0.mk ((hb.block Pb hPl).trans HPB.out)
        have HP3b := Aside0.mk (hb.block Bm hBml)
        have z0 := (hb.cell (p := ⟨Pb, 0, none⟩) hPl).trans b0
        have z1 := (hb.cell (p := ⟨Pb, 1, none⟩) hPl).trans b1
        have z2 := (hb.cell (p := ⟨Pb, 2, none⟩) hPl).trans b2
        have z3 := (hb.cell (p := ⟨Pb, 3, none⟩) hPl).trans b3
        have z4 := (hb.cell (p := ⟨Pb, 4, none⟩) hPl).trans b4
        have z5 := (hb.cell (p := ⟨Pb, 5, none⟩) hPl).trans b5
        have e3 : w3.cell? ⟨B, 3, none⟩ = some (.slice Af nk cf) := blk_cell HW3.out.blk 3
        have hsz3 : X.heap.size ≤ w3.heap.size := hb.size
        clear hR hb
        refine hK.out _ _ ⟨z0, z1, z2, z3, z4, z5, e3⟩ (fun hHeld => ?_)
        clear hK K
        refine norm_ (a' := ?_) ?_ ?_
        rotate_left
        · show Act.put _ (some 81) _ = _
          simp only [Act.put, List.setIfInBounds_toArray, List.set_cons_zero, List.set_cons_succ, i64_w, i32_w]
          rfl
        refine pure_ (i := 12) (N := some 84) (v := ?_) (a' := ?_) #[true, true, true, true, true, true, true, true, true, true, true, true, true, false, false, false, false, false] rfl rfl (by kernel_rfl) (fun _ _ _ h => h) (Or.inl ⟨by rfl, ?_⟩) ?_ ?_
        rotate_left
        · intro w'
          go_simp
          with_reducible rfl
        rotate_left
        · simp only [Act.put, List.setIfInBounds_toArray, List.set_cons_zero, List.set_cons_succ, i64_w, i32_w]
          rfl
        refine one_ (i := 13) (N := some 85) #[true, true, true, true, true, true, true, true, true, true, true, true, true, true, false, false, false, false] rfl rfl (by kernel_rfl) (by decide) (fun K hK => ?_)
        refine value_ (w1 := ?_) (v := ?_) (by rfl) rfl ?_ ?_
        rotate_left 2
        · go_simp
          constructor
          · rfl
          · rfl
        refine hK.out _ _ ⟨(World.cell?_alloc_past _ _ _ (blk_lt HP3.out)).trans z0, (World.cell?_alloc_past _ _ _ (blk_lt HP3.out)).trans z1, (World.cell?_alloc_past _ _ _ (blk_lt HP3.out)).trans z2, (World.cell?_alloc_past _ _ _ (blk_lt HP3.out)).trans z3, (World.cell?_alloc_past _ _ _ (blk_lt HP3.out)).trans z4, (World.cell?_alloc_past _ _ _ (blk_lt HP3.out)).trans z5, (World.cell?_alloc_past _ _ _ (blk_lt HW3.out.blk)).trans e3⟩ (fun hHeld => ?_)
        clear hK K
        refine norm_ (a' := ?_) ?_ ?_
        rotate_left
        · show Act.put _ (some 85) _ = _
          simp only [Act.put, List.setIfInBounds_toArray, List.set_cons_zero, List.set_cons_succ, i64_w, i32_w]
          rfl
        refine one_ (i := 14) (N := some 86) #[true, true, true, true, true, true, true, true, true, true, true, true, true, true, true, false, false, false] rfl rfl (by kernel_rfl) (by decide) (fun K hK => ?_)
        refine Kd.R_append_step kFlt (w0 := w) w.heap.size (by rfl) (.tmp 76) (.tmp 85) 101 112 (.agg #[.int .i64 0, .string ⟨#[]⟩, .slice none 0 0, .int .i64 0, .bool false, .bool false]) 72 (by rfl) Try.underlying101 infoFlt (by rfl) (by decide) (by omega) (.slice Af nk cf) (fs.take k) ⟨fid, ⟨t, pp, qq, rt⟩, true⟩ [.int .i64 fid, .string t, .slice A' pp.length c', .int .i64 qq, .bool rt, .bool true] (fun k => w.heap.size ≤ k ∧ k ≠ Bm) (fun k => X.heap.size ≤ k) (by rfl) (by rfl) ?hp ?hokp ?hfresh ?HO ?HB ?hbase ?hl ?_
        case hp => exact flt_M_mk (f := ⟨fid, ⟨t, pp, qq, rt⟩, true⟩) (Kd.R_lower HR3.out HBE.out.size)
        case hokp => exact fun k hk => ⟨⟨Nat.le_trans HBE.out.size hk, by omega⟩, fun e => by have := Kd.R_lt HW.out.flights k e.symm; omega⟩
        case hfresh => exact fun k hk => ⟨by have := HBE.out.size; omega, by omega⟩
        case HO => exact HW3.out.flights
        case HB => exact HB3b.out
        case hbase => exact HB3b.out.size
        case hl => simp only [List.length_take]; omega
        intro v1 w5 hq hbl hg hat
        obtain ⟨A1, c1, hev⟩ := Kd.R_slice hq
        obtain ⟨N1, hN1⟩ : ∃ N1, N1 = ((fs.take k) ++ [(⟨fid, ⟨t, pp, qq, rt⟩, true⟩ : Flt)]).length := ⟨_, rfl⟩
        rw [← hN1] at hev
        subst hev
        clear hN1
        have HW5 := Aside0.mk (WinAt.fly (ok' := fun k => w.heap.size ≤ k ∧ k ≠ Bm) HW3.out hq hg (fun k hk => hk))
        have HX5 := Aside0.mk (And.intro hbl (blk_grown ((HP3b.out).trans HBX.out) hg (fun e => (HW3.out.flights.1 Bm e.symm).2 rfl)))
        have g1 : w5.cell? ⟨B, 3, none⟩ = some (.slice Af nk cf) := blk_cell (blk_grown HW3.out.blk hg (Kd.R_ne HW3.out.flights HW3.out.blk (by decide))) 3
        have g2 : w5.frozen? ⟨B, 3, none⟩ = false := blk_frozen (blk_grown HW3.out.blk hg (Kd.R_ne HW3.out.flights HW3.out.blk (by decide))) 3
        have hb5 := blk_grown HP3.out hg (Kd.R_ne HW3.out.flights HP3.out (by decide))
        refine hK.out _ _ ⟨blk_cell hb5 0, blk_cell hb5 1, blk_cell hb5 2, blk_cell hb5 3, blk_cell hb5 4, blk_cell hb5 5, g1⟩ (fun hHeld => ?_)
        clear hK K
        refine norm_ (a' := ?_) ?_ ?_
        rotate_left
        · show Act.put _ (some 86) _ = _
          simp only [Act.put, List.setIfInBounds_toArray, List.set_cons_zero, List.set_cons_succ, i64_w, i32_w]
          rfl
        refine pure_ (i := 15) (N := some 87) (v := ?_) (a' := ?_) #[true, true, true, true, true, true, true, true, true, true, true, true, true, true, true, true, false, false] rfl rfl (by kernel_rfl) (fun _ _ _ h => h) (Or.inl ⟨by rfl, ?_⟩) ?_ ?_
        rotate_left
        · intro w'
          go_simp
          with_reducible rfl
        rotate_left
        · simp only [Act.put, List.setIfInBounds_toArray, List.set_cons_zero, List.set_cons_succ, i64_w, i32_w]
          rfl
        refine pure_ (i := 16) (N := some 88) (v := ?_) (a' := ?_) #[true, true, true, true, true, true, true, true, true, true, true, true, true, true, true, true, true, false] rfl rfl (by kernel_rfl) (fun _ _ _ h => h) (Or.inl ⟨by rfl, ?_⟩) ?_ ?_
        rotate_left
        · intro w'
          go_simp
          with_reducible rfl
        rotate_left
        · simp only [Act.put, List.setIfInBounds_toArray, List.set_cons_zero, List.set_cons_succ, i64_w, i32_w]
          rfl
        refine last_ (i := 17) (N := none) #[true, true, true, true, true, true, true, true, true, true, true, true, true, true, true, true, true, true] rfl rfl (by kernel_rfl) (by decide) (fun K hK => ?_)
        refine skip_ (w1 := ?_) (by rfl) rfl ?_ ?_
        rotate_left
        · go_simp
          rfl
        refine hK.out _ _ ?_
        clear hK K
        refine done_ (by kernel_rfl) ?_
        have HS5 := Aside0.mk (show OfAt w (w5.setCell ⟨B, 3, none⟩ (.slice A1 N1 c1)) B Bm (ofS n q last (fs.take (k + 1)) (ms.take 0)) last (.slice (some ad) fs.length cF) (.slice AQ ms.length cQ) from by
          rw [HTK.out]
          exact ⟨⟨_, _, _, HW5.out⟩, (Below.heap_setCell w5 ⟨B, 3, none⟩ _ Bm (fun e => HW5.out.okB.2 e.symm)).trans HX5.out.2, HX5.out.1.setCell HW5.out.baseB _⟩)
        clear hHeld HW5 HX5
        go_wp2_with fail
        go_roundg (fs.length - (k + 1))
        case measure => have := HK.out; have := HKL.out; omega
        case rel => exact ⟨k + 1, by have := HKL.out; omega, by go_num, HS5⟩
      --END
    · have hk1 : decide ((k : Int) < fs.length) = false := decide_eq_false (by omega)
      have hk2 : decide (k < fs.length) = false := decide_eq_false hlt
      have hke : fs.take k = fs := List.take_of_length_le (by omega)
      rw [hke] at H
      have m2 : wr.cell? ⟨Bm, 2, none⟩ = some (.slice AQ ms.length cQ) := blk_cell H.out.box 2
      clear hke hlt HK
      go_wp2_with fail
      clear m2 hk1 hk2
      go_loopg [93] ms.length (fun q' i wr => ∃ k : Nat, k + q' = ms.length ∧ i = .int .i64 (k : Int) ∧ Aside0 (OfAt w wr B Bm (ofS n q last fs (ms.take k)) last (.slice AF fs.length cF) (.slice AQ ms.length cQ)))
      case atStart => exact ⟨0, by omega, rfl, H⟩
      case round =>
        clear H
        obtain ⟨k, hk, rfl, H⟩ := hrel
        have HK := Aside0.mk hk
        clear hk
        by_cases hlt : k < ms.length
        · skip
          --BEG
          have hk1 : (k : Int) < ms.length := by omega
          have hk0 : (k : Int) ≤ 65536 := by omega
          obtain ⟨ad, Ap, cp, hAd, f0, f1, f2, f3, hcp, hpC⟩ := msg_at (Kd.C_below HQ.out H.out.bel) k hlt
          subst hAd
          obtain ⟨m, hm⟩ : ∃ m, ms.getD k noMsg = m := ⟨_, rfl⟩
          have hmem : m ∈ ms := by rw [← hm, List.getD_eq_getElem?_getD, List.getElem?_eq_getElem hlt]; exact List.getElem_mem _
          have htk : ms.take (k + 1) = ms.take k ++ [m] := by
            rw [List.getD_eq_getElem?_getD, List.getElem?_eq_getElem hlt] at hm
            rw [List.take_succ_eq_append_getElem hlt, show ms[k] = m from hm]
          rw [hm] at f0 f1 f2 f3 hcp hpC
          have HQM := Aside0.mk (And.intro (HG.out.qm m hmem) (HG.out.sm m hmem))
          have HTK := Aside0.mk htk
          have HKL := Aside0.mk hlt
          clear hm hmem htk hlt
          obtain ⟨t, pp, qq, rt⟩ := m
          dsimp only at *
          go_upto_region 15 with fail
          have HP := Aside0.mk (alloc_new wr (.cells #[.string t, .slice Ap pp.length cp, .int .i64 qq, .bool rt] 64))
          have H3 := Aside0.mk (H.out.below ((Below.refl wr.heap.size wr).alloc (Nat.le_refl _) (.cells #[.string t, .slice Ap pp.length cp, .int .i64 qq, .bool rt] 64)))
          have HC3 := Aside0.mk (Kd.C_alloc hpC (.cells #[.string t, .slice Ap pp.length cp, .int .i64 qq, .bool rt] 64))
          have hszr : (wr.alloc (.cells #[.string t, .slice Ap pp.length cp, .int .i64 qq, .bool rt] 64)).heap.size = wr.heap.size + 1 := by simp
          obtain ⟨vf0, vw0, bm0, hW0⟩ := H.out.win
          have HPN := Aside0.mk (show ∀ k', vw0.ownBlock = some k' → k' ≠ wr.heap.size from fun k' hk' e => by have := Kd.Q_lt hW0.waits k' hk'; omega)
          have HW0 := Aside0.mk (hW0.below ((Below.refl wr.heap.size wr).alloc (Nat.le_refl _) (.cells #[.string t, .slice Ap pp.length cp, .int .i64 qq, .bool rt] 64)))
          clear f0 f1 f2 f3 hpC H hW0
          generalize wr.alloc (.cells #[.string t, .slice Ap pp.length cp, .int .i64 qq, .bool rt] 64) = Y at *
          generalize wr.heap.size = Pb at *
          have e0 : Y.cell? ⟨Pb, 0, none⟩ = some (.string t) := blk_cell HP.out 0
          have e1 : Y.cell? ⟨Pb, 1, none⟩ = some (.slice Ap pp.length cp) := blk_cell HP.out 1
          have e2 : Y.cell? ⟨Pb, 2, none⟩ = some (.int .i64 qq) := blk_cell HP.out 2
          have e3 : Y.cell? ⟨Pb, 3, none⟩ = some (.bool rt) := blk_cell HP.out 3
          have hsd := sendable_any ⟨t, pp, qq, rt⟩ (.slice Ap pp.length cp) Y
          rw [HQM.out.1] at hsd
          have HSD := Aside0.mk hsd
          clear hsd
          go_wp2_with fail
          refine HSD.out.mono ?_
          rintro e X ⟨rfl, hb5⟩
          have H5 := Aside0.mk (H3.out.below hb5)
          have HPB := Aside0.mk ((hb5.block Pb (by omega)).trans HP.out)
          have HC5 := Aside0.mk (Kd.C_below HC3.out hb5)
          have hPl : Pb < X.heap.size := by have := hb5.size; omega
          have HW := Aside0.mk (HW0.out.below hb5)
          clear hb5 HSD H3 HP HC3 e0 e1 e2 e3 hszr HW0
          go_upto_region 17 with fail
          obtain ⟨Aw, cw, hvw, _⟩ := Kd.Q_slice HW.out.waits
          obtain ⟨nk, hnk⟩ : ∃ nk, nk = (ofS n q last fs (ms.take k)).waits.length := ⟨_, rfl⟩
          rw [← hnk] at hvw
          clear hnk
          subst hvw
          have HBE := Aside0.mk H5.out.bel
          have HBX := Aside0.mk H5.out.box
          have hBml : Bm < X.heap.size := blk_lt H5.out.box
          have hBmw : w.heap.size ≤ Bm := by have := HBm.out; omega
          have d4 : X.cell? ⟨B, 4, none⟩ = some (.slice Aw nk cw) := blk_cell HW.out.blk 4
          have b0 : X.cell? ⟨Pb, 0, none⟩ = some (.string t) := blk_cell HPB.out 0
          have b1 : X.cell? ⟨Pb, 1, none⟩ = some (.slice Ap pp.length cp) := blk_cell HPB.out 1
          have b2 : X.cell? ⟨Pb, 2, none⟩ = some (.int .i64 qq) := blk_cell HPB.out 2
          have b3 : X.cell? ⟨Pb, 3, none⟩ = some (.bool rt) := blk_cell HPB.out 3
          have HOwn := Aside0.mk (own_any ⟨t, pp, qq, rt⟩ Ap cp X.drew (Kd.C_drew HC5.out) HQM.out.2)
          clear HC5 HQM
          refine start_ (n := 12) (S := fun w' => w'.cell? ⟨Pb, 0, none⟩ = some (.string t) ∧ w'.cell? ⟨Pb, 1, none⟩ = some (.slice Ap pp.length cp) ∧ w'.cell? ⟨Pb, 2, none⟩ = some (.int .i64 qq) ∧ w'.cell? ⟨Pb, 3, none⟩ = some (.bool rt) ∧ w'.cell? ⟨B, 4, none⟩ = some (.slice Aw nk cw)) (ds := [11]) #[false, false, false, false, false, false, false, false, false, false, false, false] (by kernel_rfl) rfl rfl ⟨b0, b1, b2, b3, d4⟩ (fun hHeld => ?_)
          refine pure_ (i := 0) (N := some 100) (v := ?_) (a' := ?_) #[true, false, false, false, false, false, false, false, false, false, false, false] rfl rfl (by kernel_rfl) (fun _ _ _ h => h) (Or.inl ⟨by rfl, ?_⟩) ?_ ?_
          rotate_left
          · intro w'
            go_simp
            with_reducible rfl
          rotate_left
          · simp only [Act.put, List.setIfInBounds_toArray, List.set_cons_zero, List.set_cons_succ, i64_w, i32_w]
            rfl
          refine pure_ (i := 1) (N := some 101) (v := ?_) (a' := ?_) #[true, true, false, false, false, false, false, false, false, false, false, false] rfl rfl (by kernel_rfl) (fun _ _ _ h => h) (Or.inl ⟨by rfl, ?_⟩) ?_ ?_
          rotate_left
          · intro w'
            go_simp
            with_reducible rfl
          rotate_left
          · simp only [Act.put, List.setIfInBounds_toArray, List.set_cons_zero, List.set_cons_succ, i64_w, i32_w]
            rfl
          refine pure_ (i := 2) (N := some 102) (v := ?_) (a' := ?_) #[true, true, true, false, false, false, false, false, false, false, false, false] rfl rfl (by kernel_rfl) (fun _ _ _ h => h) (Or.inl ⟨by rfl, ?_⟩) ?_ ?_
          rotate_left
          · intro w'
            go_simp
            with_reducible rfl
          rotate_left
          · simp only [Act.put, List.setIfInBounds_toArray, List.set_cons_zero, List.set_cons_succ, i64_w, i32_w]
            rfl
          refine pure_ (i := 3) (N := some 103) (v := ?_) (a' := ?_) #[true, true, true, true, false, false, false, false, false, false, false, false] rfl rfl (by kernel_rfl) (fun _ _ _ h => h) (Or.inl ⟨by rfl, ?_⟩) ?_ ?_
          rotate_left
          · intro w'
            go_simp
            with_reducible rfl
          rotate_left
          · simp only [Act.put, List.setIfInBounds_toArray, List.set_cons_zero, List.set_cons_succ, i64_w, i32_w]
            rfl
          refine take_ (i := 4) (N := some 104) (v := ?_) (a' := ?_) #[true, true, true, true, true, false, false, false, false, false, false, false] rfl rfl (by kernel_rfl) (fun _ _ _ h => h) (Or.inl ⟨by rfl, ?_⟩) hHeld ?_ ?_
          rotate_left
          · rintro w' ⟨s0, s1, s2, s3, s4⟩
            go_simp
            with_reducible rfl
          rotate_left
          · simp only [Act.put, List.setIfInBounds_toArray, List.set_cons_zero, List.set_cons_succ, i64_w, i32_w]
            rfl
          refine take_ (i := 5) (N := some 105) (v := ?_) (a' := ?_) #[true, true, true, true, true, true, false, false, false, false, false, false] rfl rfl (by kernel_rfl) (fun _ _ _ h => h) (Or.inl ⟨by rfl, ?_⟩) hHeld ?_ ?_
          rotate_left
          · rintro w' ⟨s0, s1, s2, s3, s4⟩
            go_simp
            with_reducible rfl
          rotate_left
          · simp only [Act.put, List.setIfInBounds_toArray, List.set_cons_zero, List.set_cons_succ, i64_w, i32_w]
            rfl
          refine one_ (i := 6) (N := some 106) #[true, true, true, true, true, true, true, false, false, false, false, false] rfl rfl (by kernel_rfl) (by decide) (fun K hK => ?_)
          refine goes_ Try.func65 (by kernel_rfl) rfl #[.agg #[.string t, .slice Ap pp.length cp, .int .i64 qq, .bool rt]] (by rfl) rfl rfl (by simp only [List.map_toArray, List.map_cons, List.map_nil]; rfl) ?_
          with_reducible refine (HOwn.out).mono ?_
          rintro e w3 ⟨A', c', rfl, hR, hb⟩
          refine ⟨_, rfl, ?_⟩
          have HW3 := Aside0.mk (HW.out.below ((below_drew (Below.refl X.heap.size X)).trans (hb.mono (show X.heap.size ≤ X.drew.heap.size from Nat.le_refl _))))
          have HB3b := Aside0.mk ((HBE.out.trans ((below_drew (Below.refl X.heap.size X)).mono HBE.out.size)).trans (hb.mono (show w.heap.size ≤ X.drew.heap.size from HBE.out.size)))
          have HR3 := Aside0.mk hR
          have HP3 := Aside0.mk ((hb.block Pb hPl).trans HPB.out)
          have HP3b := Aside0.mk (hb.block Bm hBml)
          have z0 := (hb.cell (p := ⟨Pb, 0, none⟩) hPl).trans b0
          have z1 := (hb.cell (p := ⟨Pb, 1, none⟩) hPl).trans b1
          have z2 := (hb.cell (p := ⟨Pb, 2, none⟩) hPl).trans b2
          have z3 := (hb.cell (p := ⟨Pb, 3, none⟩) hPl).trans b3
          have e3 : w3.cell? ⟨B, 4, none⟩ = some (.slice Aw nk cw) := blk_cell HW3.out.blk 4
          have hsz3 : X.heap.size ≤ w3.heap.size := hb.size
          clear hR hb
          refine hK.out _ _ ⟨z0, z1, z2, z3, e3⟩ (fun hHeld => ?_)
          clear hK K
          refine norm_ (a' := ?_) ?_ ?_
          rotate_left
          · show Act.put _ (some 106) _ = _
            simp only [Act.put, List.setIfInBounds_toArray, List.set_cons_zero, List.set_cons_succ, i64_w, i32_w]
            rfl
          refine one_ (i := 7) (N := some 107) #[true, true, true, true, true, true, true, true, false, false, false, false] rfl rfl (by kernel_rfl) (by decide) (fun K hK => ?_)
          refine value_ (w1 := ?_) (v := ?_) (by rfl) rfl ?_ ?_
          rotate_left 2
          · go_simp
            constructor
            · rfl
            · rfl
          refine hK.out _ _ ⟨(World.cell?_alloc_past _ _ _ (blk_lt HP3.out)).trans z0, (World.cell?_alloc_past _ _ _ (blk_lt HP3.out)).trans z1, (World.cell?_alloc_past _ _ _ (blk_lt HP3.out)).trans z2, (World.cell?_alloc_past _ _ _ (blk_lt HP3.out)).trans z3, (World.cell?_alloc_past _ _ _ (blk_lt HW3.out.blk)).trans e3⟩ (fun hHeld => ?_)
          clear hK K
          refine norm_ (a' := ?_) ?_ ?_
          rotate_left
          · show Act.put _ (some 107) _ = _
            simp only [Act.put, List.setIfInBounds_toArray, List.set_cons_zero, List.set_cons_succ, i64_w, i32_w]
            rfl
          refine one_ (i := 8) (N := some 108) #[true, true, true, true, true, true, true, true, true, false, false, false] rfl rfl (by kernel_rfl) (by decide) (fun K hK => ?_)
          refine Kd.Q_append_step kMsg (w0 := w) w.heap.size (by rfl) (.tmp 104) (.tmp 107) 71 64 (.agg #[.string ⟨#[]⟩, .slice none 0 0, .int .i64 0, .bool false]) 56 (by rfl) Try.underlying71 infoMsg (by rfl) (by decide) (by omega) (.slice Aw nk cw) (ms.take k) ⟨t, pp, qq, rt⟩ [.string t, .slice A' pp.length c', .int .i64 qq, .bool rt] (fun k => w.heap.size ≤ k ∧ k ≠ Bm) (fun k => X.heap.size ≤ k) (by rfl) (by rfl) ?hp ?hokp ?hfresh ?HO ?HB ?hbase ?hl ?_
          case hp => exact msg_M_mk (m := ⟨t, pp, qq, rt⟩) (Kd.R_lower HR3.out HBE.out.size)
          case hokp => exact fun k hk => ⟨⟨Nat.le_trans HBE.out.size hk, by omega⟩, fun e => by have := Kd.Q_lt HW.out.waits k e.symm; omega⟩
          case hfresh => exact fun k hk => ⟨by have := HBE.out.size; omega, by omega⟩
          case HO => exact HW3.out.waits
          case HB => exact HB3b.out
          case hbase => exact HB3b.out.size
          case hl => simp only [List.length_take]; omega
          intro v1 w5 hq hbl hg hat
          obtain ⟨A1, c1, hev, _⟩ := Kd.Q_slice hq
          obtain ⟨N1, hN1⟩ : ∃ N1, N1 = (ms.take k ++ [(⟨t, pp, qq, rt⟩ : Msg)]).length := ⟨_, rfl⟩
          rw [← hN1] at hev
          subst hev
          clear hN1
          have HW5 := Aside0.mk (WinAt.wait (ok' := fun k => w.heap.size ≤ k ∧ k ≠ Bm) HW3.out hq hg (fun k hk => hk))
          have HX5 := Aside0.mk (And.intro hbl (blk_grown ((HP3b.out).trans HBX.out) hg (fun e => (HW3.out.waits.1 Bm e.symm).2 rfl)))
          have g1 : w5.cell? ⟨B, 4, none⟩ = some (.slice Aw nk cw) := blk_cell (blk_grown HW3.out.blk hg (Kd.Q_ne HW3.out.waits HW3.out.blk (by decide))) 4
          have g2 : w5.frozen? ⟨B, 4, none⟩ = false := blk_frozen (blk_grown HW3.out.blk hg (Kd.Q_ne HW3.out.waits HW3.out.blk (by decide))) 4
          have hb5 := blk_grown HP3.out hg (fun e => HPN.out Pb e.symm rfl)
          refine hK.out _ _ ⟨blk_cell hb5 0, blk_cell hb5 1, blk_cell hb5 2, blk_cell hb5 3, g1⟩ (fun hHeld => ?_)
          clear hK K
          refine norm_ (a' := ?_) ?_ ?_
          rotate_left
          · show Act.put _ (some 108) _ = _
            simp only [Act.put, List.setIfInBounds_toArray, List.set_cons_zero, List.set_cons_succ, i64_w, i32_w]
            rfl
          refine pure_ (i := 9) (N := some 109) (v := ?_) (a' := ?_) #[true, true, true, true, true, true, true, true, true, true, false, false] rfl rfl (by kernel_rfl) (fun _ _ _ h => h) (Or.inl ⟨by rfl, ?_⟩) ?_ ?_
          rotate_left
          · intro w'
            go_simp
            with_reducible rfl
          rotate_left
          · simp only [Act.put, List.setIfInBounds_toArray, List.set_cons_zero, List.set_cons_succ, i64_w, i32_w]
            rfl
          refine pure_ (i := 10) (N := some 110) (v := ?_) (a' := ?_) #[true, true, true, true, true, true, true, true, true, true, true, false] rfl rfl (by kernel_rfl) (fun _ _ _ h => h) (Or.inl ⟨by rfl, ?_⟩) ?_ ?_
          rotate_left
          · intro w'
            go_simp
            with_reducible rfl
          rotate_left
          · simp only [Act.put, List.setIfInBounds_toArray, List.set_cons_zero, List.set_cons_succ, i64_w, i32_w]
            rfl
          refine last_ (i := 11) (N := none) #[true, true, true, true, true, true, true, true, true, true, true, true] rfl rfl (by kernel_rfl) (by decide) (fun K hK => ?_)
          refine skip_ (w1 := ?_) (by rfl) rfl ?_ ?_
          rotate_left
          · go_simp
            rfl
          refine hK.out _ _ ?_
          clear hK K
          refine done_ (by kernel_rfl) ?_
          have HS5 := Aside0.mk (show OfAt w (w5.setCell ⟨B, 4, none⟩ (.slice A1 N1 c1)) B Bm (ofS n q last fs (ms.take (k + 1))) last (.slice AF fs.length cF) (.slice (some ad) ms.length cQ) from by
            rw [HTK.out]
            exact ⟨⟨_, _, _, HW5.out⟩, (Below.heap_setCell w5 ⟨B, 4, none⟩ _ Bm (fun e => HW5.out.okB.2 e.symm)).trans HX5.out.2, HX5.out.1.setCell HW5.out.baseB _⟩)
          clear hHeld HW5 HX5
          go_wp2_with fail
          go_roundg (ms.length - (k + 1))
          case measure => have := HK.out; have := HKL.out; omega
          case rel => exact ⟨k + 1, by have := HKL.out; omega, by go_num, HS5⟩
          --END
        · have hk1 : decide ((k : Int) < ms.length) = false := decide_eq_false (by omega)
          have hk2 : decide (k < ms.length) = false := decide_eq_false hlt
          have hke : ms.take k = ms := List.take_of_length_le (by omega)
          rw [hke] at H
          obtain ⟨vf, vw, bm, hW⟩ := H.out.win
          obtain ⟨c0, c1, c2, c3, c4, c5, c6, cfz⟩ := hW.cells
          obtain ⟨Af, cf, hvf⟩ := Kd.R_slice hW.flights
          obtain ⟨Aw, cw, hvw, _⟩ := Kd.Q_slice hW.waits
          subst hvf hvw
          have c0' : wr.cell? ⟨B, 0, none⟩ = some (.int .i64 (clampI 1 65535 n)) := c0
          have c1' : wr.cell? ⟨B, 1, none⟩ = some (.int .i64 (clampI 0 65536 q)) := c1
          have c3' : wr.cell? ⟨B, 3, none⟩ = some (.slice Af fs.length cf) := c3
          have c4' : wr.cell? ⟨B, 4, none⟩ = some (.slice Aw ms.length cw) := c4
          have g1 := HG.out.fw
          have g2 := HG.out.mq
          clear hke hlt HK c0 c1 c2 c3 c4 c5 c6 cfz hW
          generalize clampI 1 65535 n = a at *
          generalize clampI 0 65536 q = b at *
          have j1 : decide ((fs.length : Int) > a) = false := decide_eq_false (by omega)
          have j2 : decide (a < (fs.length : Int)) = false := decide_eq_false (by omega)
          have j3 : decide ((ms.length : Int) > b) = false := decide_eq_false (by omega)
          have j4 : decide (b < (ms.length : Int)) = false := decide_eq_false (by omega)
          clear g1 g2
          go_wp2_with fail
          go_quiet (fail)
          have HFN := fun nq => Aside0.mk (H.out.below (pw_below_drewN (Below.refl wr.heap.size wr) nq))
          clear c0' c1' c3' c4' j1 j2 j3 j4 H
          go_wp2_with fail
          go_ret2
          refine ⟨B, rfl, ?_⟩
          exact (HFN _).out.fin
end Go.Proofs.Ytjccmlmkcjmicaa.Win

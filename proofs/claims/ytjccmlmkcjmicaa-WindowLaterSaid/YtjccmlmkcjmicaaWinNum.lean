/- The walks of a window's place, number, Reserve and Free. No statement of the program. -/
import Derived.Test.YtjccmlmkcjmicaaWin
import Derived.Maps.OwnSet
namespace Go.Proofs.Ytjccmlmkcjmicaa.Win
open Go Go.RowKit Go.Maps Go.MapKept Go.ChangeMaps Go.Proofs.YtjccmlmkcjmicaaW.PrintWords Go.Proofs.Ytjccmlmkcjmicaa.Kinds
set_option linter.unusedVariables false
set_option linter.unusedSimpArgs false

def noFlt : Flt := ⟨0, noMsg, false⟩
theorem flt_at {w : World} {A : Option Addr} {n : Nat} {fl : List Flt} (h : kFlt.C w A n fl) (k : Nat) (hk : k < n) : ∃ ad Ap cp, A = some ad ∧
    w.cell? (ad.add (k * 6)) = some (.int .i64 (fl.getD k noFlt).id) ∧ w.cell? ⟨(ad.add (k * 6)).block, (ad.add (k * 6)).off + 1, none⟩ = some (.string (fl.getD k noFlt).msg.topic) ∧
    w.cell? ⟨(ad.add (k * 6)).block, (ad.add (k * 6)).off + 2, none⟩ = some (.slice Ap (fl.getD k noFlt).msg.payload.length cp) ∧ w.cell? ⟨(ad.add (k * 6)).block, (ad.add (k * 6)).off + 3, none⟩ = some (.int .i64 (fl.getD k noFlt).msg.qos) ∧
    w.cell? ⟨(ad.add (k * 6)).block, (ad.add (k * 6)).off + 4, none⟩ = some (.bool (fl.getD k noFlt).msg.retain) ∧ w.cell? ⟨(ad.add (k * 6)).block, (ad.add (k * 6)).off + 5, none⟩ = some (.bool (fl.getD k noFlt).released) ∧
    (fl.getD k noFlt).msg.payload.length ≤ cp ∧ (Kd.int .u8).C w Ap (fl.getD k noFlt).msg.payload.length (fl.getD k noFlt).msg.payload := by
  obtain ⟨ad, c, e, _, hK, hc0⟩ := Kd.C_get h noFlt (k : Int) (by omega) (by omega)
  simp only [Int.toNat_natCast] at hK hc0
  have hc : ∀ j u, c[j]? = some u → w.cell? (ad.add (k * 6 + j)) = some u := hc0
  obtain ⟨Ap, cp, rfl, l3, g3⟩ := flt_K hK
  exact ⟨ad, Ap, cp, e, hc 0 _ rfl, by rw [← add_field _ _ 1 (by omega)]; exact hc 1 _ rfl, by rw [← add_field _ _ 2 (by omega)]; exact hc 2 _ rfl, by rw [← add_field _ _ 3 (by omega)]; exact hc 3 _ rfl, by rw [← add_field _ _ 4 (by omega)]; exact hc 4 _ rfl, by rw [← add_field _ _ 5 (by omega)]; exact hc 5 _ rfl, l3, g3⟩

/-- where what has a number stands, from place i on; -1: nowhere -/
def placeFrom : List Flt → Int → Nat → Int
  | [], _, _ => -1
  | f :: r, id, i => if f.id = id then (i : Int) else placeFrom r id (i + 1)
def placeL (fl : List Flt) (id : Int) : Int := placeFrom fl id 0
theorem placeFrom_drop (fl : List Flt) (id : Int) (k : Nat) (hk : k < fl.length) : placeFrom (fl.drop k) id k = if (fl.getD k noFlt).id = id then (k : Int) else placeFrom (fl.drop (k + 1)) id (k + 1) := by
  rw [List.drop_eq_getElem_cons hk, List.getD_eq_getElem?_getD, List.getElem?_eq_getElem hk]; rfl
theorem placeFrom_end (fl : List Flt) (id : Int) (k : Nat) (hk : ¬ k < fl.length) : placeFrom (fl.drop k) id k = -1 := by
  rw [List.drop_of_length_le (by omega)]; rfl

theorem place1_any (x1 x2 x3 x4 x5 : Value) (f id : Int) (pb : Nat) (w : World) (hp : w.cell? ⟨pb, 0, none⟩ = some (.int .i64 id)) :
    Calls Try.prog 87 #[.agg #[.int .i64 f, x1, x2, x3, x4, x5], .pointer (some ⟨pb, 0, none⟩)] w fun e w' => e = .returned (.bool (f == id)) ∧ Below w.heap.size w w' := by
  have hlt := World.block_lt_of_cell? w _ hp
  have hp2 : ∀ o, (w.alloc o).cell? ⟨pb, 0, none⟩ = some (.int .i64 id) := fun o => (World.cell?_alloc_past _ _ _ hlt).trans hp
  go_enter Try.func87, Try.ntmps87
  go_wp2
  go_ret
  exact ⟨rfl, (Below.refl _ _).alloc (Nat.le_refl _) _⟩

set_option maxRecDepth 100000 in
set_option maxHeartbeats 1000000 in
theorem indexF_any (A : Option Addr) (c : Nat) (fl : List Flt) (id : Int) (pb : Nat) (w : World) (hp : w.cell? ⟨pb, 0, none⟩ = some (.int .i64 id)) (hC : kFlt.C w A fl.length fl) (hl : fl.length ≤ 65536) :
    Calls Try.prog 86 #[.slice A fl.length c, .func (.func 87) #[] #[.pointer (some ⟨pb, 0, none⟩)]] w fun e w' => e = .returned (.int .i64 (placeL fl id)) ∧ Below w.heap.size w w' := by
  obtain ⟨r, hr⟩ : ∃ r, placeL fl id = r := ⟨_, rfl⟩
  rw [hr]
  have HR := Aside0.mk (show placeFrom (fl.drop 0) id 0 = r from hr)
  have HC := Aside0.mk hC
  have HP := Aside0.mk hp
  clear hr hC hp
  go_enter Try.func86, Try.ntmps86
  go_wp2_with fail
  go_loopg [8] fl.length (fun q i wr => ∃ k : Nat, k + q = fl.length ∧ i = .int .i64 (k : Int) ∧ Aside0 (placeFrom (fl.drop k) id k = r) ∧ Aside0 (Below w.heap.size w wr))
  case atStart => exact ⟨0, by omega, rfl, HR, ⟨Below.refl _ _⟩⟩
  case round =>
    obtain ⟨k, hk, rfl, HQ, HB⟩ := hrel
    have HK := Aside0.mk hk
    clear hk HR
    by_cases hlt : k < fl.length
    · obtain ⟨ad, Ap, cp, rfl, h0, h1, h2, h3, h4, h5, _, _⟩ := flt_at (Kd.C_below HC.out HB.out) k hlt
      have hq := HQ.out
      rw [placeFrom_drop fl id k hlt] at hq
      have hpw : wr.cell? ⟨pb, 0, none⟩ = some (.int .i64 id) := (HB.out.cell (p := ⟨pb, 0, none⟩) (World.block_lt_of_cell? w _ HP.out)).trans HP.out
      generalize (fl.getD k noFlt).id = fid at h0 hq
      generalize (fl.getD k noFlt).msg = fm at h1 h2 h3 h4
      generalize (fl.getD k noFlt).released = fr at h5
      have HPW := Aside0.mk hpw
      clear hpw
      by_cases he : fid = id
      · rw [if_pos he] at hq
        have hb : (fid == id) = true := by simp [he]
        have HQ2 := Aside0.mk hq
        clear hq he
        go_wp2_with (go_at_call 87; refine (place1_any _ _ _ _ _ _ _ _ _ HPW.out).mono ?_; rintro e w1 ⟨rfl, hb1⟩; have HB1 := Aside0.mk (HB.out.trans (hb1.mono HB.out.size)); clear hb1)
        go_ret
        exact ⟨by rw [HQ2.out]; rfl, HB1.out⟩
      · rw [if_neg he] at hq
        have hb : (fid == id) = false := by simp [he]
        have HQ2 := Aside0.mk hq
        clear hq he
        go_wp2_with (go_at_call 87; refine (place1_any _ _ _ _ _ _ _ _ _ HPW.out).mono ?_; rintro e w1 ⟨rfl, hb1⟩; have HB1 := Aside0.mk (HB.out.trans (hb1.mono HB.out.size)); clear hb1)
        go_roundg (fl.length - (k + 1))
        case measure => have := HK.out; omega
        case rel => exact ⟨k + 1, by omega, by go_num, HQ2, HB1⟩
    · have hq := HQ.out
      rw [placeFrom_end fl id k hlt] at hq
      have HQ2 := Aside0.mk hq
      clear hq
      go_wp2
      go_ret
      exact ⟨by rw [← HQ2.out]; rfl, HB.out⟩

theorem place_any {w : World} {base B : Nat} {ok : Nat → Prop} {s : WS} (h : WinAt' w base ok B s) (hl : s.flights.length ≤ 65536) (id : Int) :
    Calls Try.prog 71 #[.pointer (some ⟨B, 0, none⟩), .int .i64 id] w fun e w' => e = .returned (.int .i64 (placeL s.flights id)) ∧ Below w.heap.size w w' := by
  have hmf : ∀ (fn : Fn) (first cap : Array Value) (w : World), (Instr.makeFunc fn first cap).run Try.prog w = .ok (.func fn first cap) w := fun _ _ _ _ => rfl
  obtain ⟨vf, vw, bm, h⟩ := h
  obtain ⟨c0, c1, c2, c3, c4, c5, c6, cf⟩ := h.cells
  have hBlt := blk_lt h.blk
  obtain ⟨A, c, he, hc, hC⟩ := Kd.R_reads h.flights
  subst he
  have HC := Aside0.mk hC
  clear h c0 c1 c2 c4 c5 c6 cf hC
  obtain ⟨x1, x2, x3, fl, x5, x6, on⟩ := s
  dsimp only at *
  have c3' : ∀ o, (w.alloc o).cell? ⟨B, 3, none⟩ = some (.slice A fl.length c) := fun o => (World.cell?_alloc_past _ _ _ hBlt).trans c3
  have HI := Aside0.mk (indexF_any A c fl id w.heap.size (w.alloc (.cells #[.int .i64 id] 3)) (by rw [World.cell?_alloc_at _ _ _ _ rfl]; rfl) (Kd.C_below HC.out ((Below.refl _ _).alloc (Nat.le_refl _) _)) hl)
  go_enter Try.func71, Try.ntmps71
  go_wp2_with fail
  refine HI.out.mono ?_
  rintro e w1 ⟨rfl, hb⟩
  have HB := Aside0.mk (((Below.refl w.heap.size w).alloc (Nat.le_refl _) _).trans (hb.mono (by simp)))
  clear hb
  go_wp2
  go_ret
  exact ⟨rfl, HB.out⟩

theorem keyedInt : Keyed Try.prog 3 := int_keyed Try.underlying3
theorem zeroUnit (w : World) : (zeroValue 104).run Try.prog w = .ok (.agg #[]) w := by kernel_rfl

theorem look_run {W : World} {D : DataW Unit} {b n : Nat} (h : W.ownsMap Try.prog 3 (unitElem (H := Unit)) b n D) (x : Int) (hx : (Lit.int .i64 x).wf = true) :
    (Instr.lookup 100 (.map (some b)) (.int .i64 x) true).run Try.prog W = .ok (.tuple #[.agg #[], .bool (Maps.has D (.int .i64 x))]) W := by
  obtain ⟨v, ps, hr, hv⟩ := h.look_ok keyedInt Try.underlying100 (zeroUnit W) (unitElem_mk) (keyOf_int_mk Try.underlying3 hx)
  obtain ⟨rfl, _⟩ := unitElem_inv hv
  exact hr
/-- the next number that nothing has: k more may be tried -/
def numL (fl : List Flt) (D : DataW Unit) : Nat → Int → Int
  | 0, l => l
  | k + 1, l => if Maps.has D (.int .i64 (l % 65535 + 1)) = false ∧ placeL fl (l % 65535 + 1) < 0 then l % 65535 + 1 else numL fl D k (l % 65535 + 1)

set_option maxRecDepth 100000 in
set_option maxHeartbeats 2000000 in
theorem number_any {w : World} {base B : Nat} {ok : Nat → Prop} {s : WS} (h : WinAt' w base ok B s) (hok : WOk s) :
    Calls Try.prog 62 #[.pointer (some ⟨B, 0, none⟩)] w fun e w' => e = .returned (.int .i64 (numL s.flights s.D 65535 s.last)) ∧ WinAt' w' base ok B { s with last := numL s.flights s.D 65535 s.last } ∧ Fr (fun k => k = B) w w' := by
  obtain ⟨r, hr⟩ : ∃ r, numL s.flights s.D 65535 s.last = r := ⟨_, rfl⟩
  rw [hr]
  have HR := Aside0.mk hr
  have HW := Aside0.mk h
  clear hr h
  have hfl := hok.fl
  have hl1 := hok.l1
  have hl2 := hok.l2
  go_enter Try.func62, Try.ntmps62
  go_wp2_with fail
  go_loopg [5] 65535 (fun q i wr => ∃ (k : Nat) (l : Int), k + q = 65535 ∧ i = .int .i64 (k : Int) ∧ 0 ≤ l ∧ l ≤ 65535 ∧ Aside0 (numL s.flights s.D q l = r) ∧ Aside0 (WinAt' wr base ok B { s with last := l }) ∧ Aside0 (Fr (fun k => k = B) w wr))
  case atStart => exact ⟨0, s.last, by omega, rfl, hl1, hl2, HR, HW, ⟨Fr.refl _ _⟩⟩
  case round =>
    obtain ⟨k, l, hk, rfl, hl1, hl2, HQ, HW, HF⟩ := hrel
    have HK := Aside0.mk hk
    clear hk HR
    obtain ⟨vf, vw, bm, hw⟩ := HW.out
    obtain ⟨c0, c1, c2, c3, c4, c5, c6, cf⟩ := hw.cells
    have hf2 := cf 2
    have H1 := Aside0.mk hw
    clear hw c0 c1 c3 c4 c6 cf
    dsimp only at c2 c5
    by_cases hlt : (k : Int) < 65535
    · have hb1 : decide ((k : Int) < 65535) = true := decide_eq_true hlt
      go_wp2_with fail
      obtain ⟨l', hl'⟩ : ∃ l', l' = l % 65535 + 1 := ⟨_, rfl⟩
      have hl'1 : 1 ≤ l' := by omega
      have hl'2 : l' ≤ 65535 := by omega
      have hwf : (Lit.int .i64 l').wf = true := WalkArith.wf_i64 (by omega)
      have h2 := H1.out.set (s' := { s with last := l' }) 2 (.int .i64 l') (by simp [winCells]) rfl rfl rfl
      have hF2 : Fr (fun k => k = B) w (wr.setCell ⟨B, 2, none⟩ (.int .i64 l')) := HF.out.setCell (fun _ => rfl) _
      rw [← hl']
      generalize wr.setCell ⟨B, 2, none⟩ (.int .i64 l') = W2 at h2 hF2
      obtain ⟨d0, d1, d2, d3, d4, d5, d6, df⟩ := h2.cells
      dsimp only at d2 d5
      have hL1 := look_run (h2.map.drew) l' hwf
      have hL2 := fun o => look_run (h2.map.alloc o).drew l' hwf
      dsimp only at hL1 hL2
      have hBl := blk_lt h2.blk
      have d2' : ∀ o, (W2.alloc o).cell? ⟨B, 2, none⟩ = some (.int .i64 l') := fun o => (World.cell?_alloc_past _ _ _ hBl).trans d2
      have d5' : ∀ o, (W2.alloc o).cell? ⟨B, 5, none⟩ = some (.map (some bm)) := fun o => (World.cell?_alloc_past _ _ _ hBl).trans d5
      have HL' := Aside0.mk hl'
      have H2 := Aside0.mk h2
      have HF2 := Aside0.mk hF2
      clear d0 d1 d3 d4 d6 df hl' h2 hF2 c2 c5 hf2 hwf
      cases hh : Maps.has s.D (.int .i64 l')
      · rw [hh] at hL1 hL2
        have HH := Aside0.mk hh
        clear hh
        go_region
        have hB3 : Below W2.heap.size W2 (W2.alloc (.cells #[] 104)).drew := ((Below.refl _ _).alloc (Nat.le_refl _) _).drew
        have H3 := Aside0.mk (H2.out.below hB3)
        have HF3 := Aside0.mk (HF2.out.trans (Fr.of_below (fun _ => False) hB3) (fun _ _ e => e.elim))
        clear hB3 H2 HF2
        by_cases hp : placeL s.flights l' < 0
        · have hq : r = l' := by
            have := HQ.out
            obtain ⟨m, rfl⟩ : ∃ m, gk = m + 1 := ⟨gk - 1, by have := HK.out; omega⟩
            rw [numL, ← HL'.out, if_pos ⟨HH.out, hp⟩] at this
            exact this.symm
          have HQ2 := Aside0.mk hq
          clear hq
          go_wp2_with fail
          refine (place_any ⟨vf, vw, bm, H3.out⟩ hfl l').mono ?_
          rintro e w1 ⟨rfl, hb⟩
          have H4 := Aside0.mk (H3.out.below hb)
          have HF4 := Aside0.mk (HF3.out.trans (Fr.of_below (fun _ => False) hb) (fun _ _ e => e.elim))
          obtain ⟨d0, d1, d2, d3, d4, d5, d6, df⟩ := H4.out.cells
          dsimp only at d2
          clear d0 d1 d3 d4 d5 d6 df hb H3 HF3 d2' d5' hL1 hL2
          dsimp only
          go_wp2
          go_ret
          exact ⟨by rw [HQ2.out]; rfl, by rw [HQ2.out]; exact ⟨vf, vw, bm, H4.out⟩, HF4.out⟩
        · have hq : numL s.flights s.D (gk - 1) l' = r := by
            have := HQ.out
            obtain ⟨m, rfl⟩ : ∃ m, gk = m + 1 := ⟨gk - 1, by have := HK.out; omega⟩
            rw [numL, ← HL'.out, if_neg (fun h => hp h.2)] at this
            simpa using this
          have HQ2 := Aside0.mk hq
          clear hq
          go_wp2_with fail
          refine (place_any ⟨vf, vw, bm, H3.out⟩ hfl l').mono ?_
          rintro e w1 ⟨rfl, hb⟩
          have H4 := Aside0.mk (H3.out.below hb)
          have HF4 := Aside0.mk (HF3.out.trans (Fr.of_below (fun _ => False) hb) (fun _ _ e => e.elim))
          clear hb H3 HF3 d2' d5' hL1 hL2
          dsimp only
          have hpb : decide (placeL s.flights l' < 0) = false := decide_eq_false (by omega)
          clear hp
          generalize placeL s.flights l' = pl at hpb ⊢
          go_wp2
          go_roundg (gk - 1)
          case measure => have := HK.out; omega
          case rel => exact ⟨k + 1, l', by have := HK.out; omega, by go_num, by omega, by omega, HQ2, ⟨⟨vf, vw, bm, H4.out⟩⟩, HF4⟩
      · rw [hh] at hL1 hL2
        have hq : numL s.flights s.D (gk - 1) l' = r := by
          have := HQ.out
          obtain ⟨m, rfl⟩ : ∃ m, gk = m + 1 := ⟨gk - 1, by have := HK.out; omega⟩
          rw [numL, ← HL'.out, if_neg (fun h => by rw [hh] at h; exact absurd h.1 (by simp))] at this
          simpa using this
        have HQ2 := Aside0.mk hq
        clear hh hq
        go_region
        have hB3 : Below W2.heap.size W2 (W2.alloc (.cells #[] 104)).drew := ((Below.refl _ _).alloc (Nat.le_refl _) _).drew
        have H3 := Aside0.mk (H2.out.below hB3)
        have HF3 := Aside0.mk (HF2.out.trans (Fr.of_below (fun _ => False) hB3) (fun _ _ e => e.elim))
        clear hB3 H2 HF2 d2' d5' hL1 hL2
        go_wp2
        go_roundg (gk - 1)
        case measure => have := HK.out; omega
        case rel => exact ⟨k + 1, l', by have := HK.out; omega, by go_num, by omega, by omega, HQ2, ⟨⟨vf, vw, bm, H3.out⟩⟩, HF3⟩
    · have hb1 : decide ((k : Int) < 65535) = false := decide_eq_false hlt
      have hq : r = l := by
        have h1 := HQ.out
        have h2 : gk = 0 := by have := HK.out; omega
        rw [h2, numL] at h1
        exact h1.symm
      have HQ2 := Aside0.mk hq
      clear hq
      go_wp2
      go_ret
      exact ⟨by rw [HQ2.out]; rfl, by rw [HQ2.out]; exact ⟨vf, vw, bm, H1.out⟩, HF.out⟩

theorem WinAt.turned {w w1 : World} {base B bm : Nat} {ok : Nat → Prop} {s : WS} {vf vw : Value} (h : WinAt w base ok B s vf vw bm) (hm : w.mapTurned w1 bm) {n : Nat} {D' : DataW Unit} (hown : w1.ownsMap Try.prog 3 (unitElem (H := Unit)) bm n D') :
    WinAt w1 base ok B { s with D := D' } vf vw bm := by
  have hg := hm.grown
  have hb : ∃ es clock, w.heap[bm]? = some (.map es clock) := by obtain ⟨es, clock, hb, _⟩ := h.map; exact ⟨es, clock, hb⟩
  obtain ⟨es, clock, hb⟩ := hb
  have hne : ∀ k, (∃ q, ∃ cells, w.heap[k]? = some (.cells cells q (0, 0))) → some k ≠ some bm := by
    rintro k ⟨q, cells, hc⟩ e
    injection e with e
    subst e
    rw [hb] at hc
    cases hc
  refine ⟨h.okB, h.okM, h.baseB, h.baseM, (hg.block B (blk_lt h.blk) (hne B ⟨_, _, h.blk⟩)).trans h.blk, ?_, ?_, map_tight hown⟩
  · exact Kd.R_mono (Kd.R_move (Kd.R_bound h.flights) (fun k hk => hg.block k hk.2.2.1 (hne k (by obtain ⟨_, _, _, q, _, cells, hc⟩ := hk; exact ⟨q, cells, hc⟩)))) (fun _ hk => hk.1)
  · exact Kd.Q_mono (Kd.Q_move (Kd.Q_bound h.waits) (fun k hk => hg.block k hk.2.2.1 (hne k (by obtain ⟨_, _, _, q, _, cells, hc⟩ := hk; exact ⟨q, cells, hc⟩)))) (fun _ hk => hk.1)

/-- Reserve: may it? the number; the window behind it -/
def resB (s : WS) : Bool := decide ((Maps.size s.D : Int) < 65535 - s.window)
def resN (s : WS) : Int := if resB s then numL s.flights s.D 65535 s.last else 0
def resS (s : WS) : WS := if resB s then { s with last := numL s.flights s.D 65535 s.last, D := s.D.put (.int .i64 (numL s.flights s.D 65535 s.last)) (.agg []) } else s
theorem numL_range (fl : List Flt) (D : DataW Unit) : ∀ (k : Nat) (l : Int), 0 ≤ l → l ≤ 65535 → 0 ≤ numL fl D k l ∧ numL fl D k l ≤ 65535 ∧ (0 < k → 1 ≤ numL fl D k l)
  | 0, l, h1, h2 => by rw [numL]; omega
  | k + 1, l, h1, h2 => by
    rw [numL]
    split
    · omega
    · have := numL_range fl D k (l % 65535 + 1) (by omega) (by omega)
      refine ⟨this.1, this.2.1, fun _ => ?_⟩
      rcases Nat.eq_zero_or_pos k with h | h
      · subst h; rw [numL]; omega
      · exact this.2.2 h

set_option maxRecDepth 100000 in
set_option maxHeartbeats 2000000 in
theorem reserve_any {w : World} {base B : Nat} {ok : Nat → Prop} {s : WS} (h : WinAt' w base ok B s) (hok : WOk s) (hsz : Maps.size s.D ≤ 1000000) :
    Calls Try.prog 23 #[.pointer (some ⟨B, 0, none⟩)] w fun e w' => e = .returned (.tuple #[.int .i64 (resN s), .bool (resB s)]) ∧ WinAt' w' base ok B (resS s) ∧ Fr ok w w' := by
  obtain ⟨vf, vw, bm, h⟩ := h
  obtain ⟨c0, c1, c2, c3, c4, c5, c6, cf⟩ := h.cells
  have hlen := fun ty => h.map.drew.len Try.underlying100 ty
  have hw1 := hok.w1
  have hw2 := hok.w2
  have H := Aside0.mk h
  have HOK := Aside0.mk hok
  clear h c1 c2 c3 c4 c6 cf hok
  obtain ⟨sz, hS⟩ : ∃ sz, sz = Maps.size s.D := ⟨_, rfl⟩
  rw [← hS] at hlen hsz
  have HS := Aside0.mk hS
  clear hS
  by_cases hb : (sz : Int) < 65535 - s.window
  · have hB : resB s = true := by unfold resB; rw [← HS.out]; exact decide_eq_true hb
    have e1 : resN s = numL s.flights s.D 65535 s.last := by unfold resN; rw [if_pos hB]
    have e2 : resS s = { s with last := numL s.flights s.D 65535 s.last, D := s.D.put (.int .i64 (numL s.flights s.D 65535 s.last)) (.agg []) } := by unfold resS; rw [if_pos hB]
    rw [hB, e1, e2]
    clear hB e1 e2
    have hrange := numL_range s.flights s.D 65535 s.last HOK.out.l1 HOK.out.l2
    have HN := Aside0.mk (number_any (w := w.drew) ⟨vf, vw, bm, H.out.below (below_drew (Below.refl _ _))⟩ HOK.out)
    obtain ⟨r, hr⟩ : ∃ r, numL s.flights s.D 65535 s.last = r := ⟨_, rfl⟩
    rw [hr] at HN hrange ⊢
    obtain ⟨hr0, hr1, hr2⟩ := hrange
    clear hr hr2
    go_enter Try.func23, Try.ntmps23
    go_wp2_with fail
    go_region
    go_wp2_with fail
    refine HN.out.mono ?_
    rintro e w1 ⟨rfl, ⟨vf1, vw1, bm1, h1⟩, hf1⟩
    obtain ⟨d0, d1, d2, d3, d4, d5, d6, df⟩ := h1.cells
    have H1 := Aside0.mk h1
    have HF1 := Aside0.mk hf1
    clear h1 hf1 d0 d1 d2 d3 d4 d6 df hlen c0 c5
    go_wp2_with (at_mapUpdate; refine wpList_mapUpdate_in _ rfl _ _ _ 100 rfl 3 104 keyedInt Try.underlying100 (unitElem (H := Unit)) bm1 (Maps.size s.D) s.D rfl H1.out.map ?hn _ _ _ rfl rfl (keyOf_int_mk Try.underlying3 (WalkArith.wf_i64 (by omega))) (.agg []) [] unitElem_mk ?_)
    case hn => rw [← HS.out]; unfold maxLen; omega
    intro w2 hown hturn
    have fin : WinAt' w2 base ok B { s with last := r, D := s.D.put (.int .i64 r) (.agg []) } ∧ Fr ok w w2 :=
      ⟨⟨vf1, vw1, bm1, H1.out.turned hturn hown⟩, (((Fr.refl ok w).drew).trans HF1.out (fun k hk e => e ▸ H1.out.okB)).turned hturn (fun _ => H1.out.okM)⟩
    have FIN := Aside0.mk fin
    clear fin hown hturn
    go_wp2
    go_ret2
    exact ⟨rfl, FIN.out⟩
  · have hB : resB s = false := by unfold resB; rw [← HS.out]; exact decide_eq_false hb
    have e1 : resN s = 0 := by unfold resN; rw [hB]; rfl
    have e2 : resS s = s := by unfold resS; rw [hB]; rfl
    rw [hB, e1, e2]
    clear hB e1 e2
    have fin : WinAt' w.drew base ok B s ∧ Fr ok w w.drew := ⟨⟨vf, vw, bm, H.out.below (below_drew (Below.refl _ _))⟩, (Fr.refl ok w).drew⟩
    have FIN := Aside0.mk fin
    clear fin
    go_enter Try.func23, Try.ntmps23
    go_wp2_with fail
    go_region
    go_wp2
    go_ret2
    exact ⟨rfl, FIN.out⟩

/-- Free -/
theorem free_any {w : World} {base B : Nat} {ok : Nat → Prop} {s : WS} (h : WinAt' w base ok B s) (id : Int) (hid : (Lit.int .i64 id).wf = true) :
    Calls Try.prog 36 #[.pointer (some ⟨B, 0, none⟩), .int .i64 id] w fun e w' => e = .returned (.bool (Maps.has s.D (.int .i64 id))) ∧ WinAt' w' base ok B { s with D := s.D.del (.int .i64 id) } ∧ Fr ok w w' := by
  obtain ⟨vf, vw, bm, h⟩ := h
  obtain ⟨c0, c1, c2, c3, c4, c5, c6, cf⟩ := h.cells
  have hl := look_run h.map id hid
  have hBl := blk_lt h.blk
  have H := Aside0.mk h
  have c5' : ∀ o, (w.alloc o).cell? ⟨B, 5, none⟩ = some (.map (some bm)) := fun o => (World.cell?_alloc_past _ _ _ hBl).trans c5
  clear h c0 c1 c2 c3 c4 c6 cf
  go_enter Try.func36, Try.ntmps36
  go_wp2_with (at_delete; refine wpList_delete_own _ rfl _ _ 100 3 rfl 104 keyedInt Try.underlying100 (unitElem (H := Unit)) bm (Maps.size s.D) s.D rfl (H.out.map.alloc _) _ _ rfl (keyOf_int_mk Try.underlying3 hid) ?_)
  intro w2 hown hturn
  have fin : WinAt' w2 base ok B { s with D := s.D.del (.int .i64 id) } ∧ Fr ok w w2 :=
    ⟨⟨vf, vw, bm, (H.out.below ((Below.refl _ _).alloc (Nat.le_refl _) _)).turned hturn hown⟩, ((Fr.refl ok w).alloc _).turned hturn (fun _ => H.out.okM)⟩
  have FIN := Aside0.mk fin
  clear fin hown hturn
  go_wp2
  go_ret
  exact ⟨rfl, FIN.out⟩
end Go.Proofs.Ytjccmlmkcjmicaa.Win

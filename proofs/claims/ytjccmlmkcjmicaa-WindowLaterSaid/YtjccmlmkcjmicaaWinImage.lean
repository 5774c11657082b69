/- The walk of a window's Image. No statement of the program. -/
import Derived.Test.YtjccmlmkcjmicaaWLast
import Derived.Test.YtjccmlmkcjmicaaWinUp
namespace Go.Proofs.Ytjccmlmkcjmicaa.Win
open Go Go.RowKit Go.Maps Go.MapKept Go.ChangeMaps Go.Proofs.YtjccmlmkcjmicaaW.PrintWords Go.Proofs.YtjccmlmkcjmicaaW.PrintLast Go.Proofs.Ytjccmlmkcjmicaa.Kinds
set_option linter.unusedVariables false
set_option linter.unusedSimpArgs false

theorem infoAFl : (Try.prog.info? 82).map (fun i => (i.zero, i.size, i.bytes)) = some (some (.agg noF), 6, 72) := by kernel_rfl

theorem awinSize : (Try.prog.info? 85).map (·.size) = some 3 := by kernel_rfl
/-- an image under way: its box D, its two lists, all in new memory -/
structure ImgAt (w : World) (last : Int) (D : Nat) (vF vQ : Value) (fs : List Flt) (ms : List Msg) (X : World) : Prop where
  box : X.heap[D]? = some (.cells #[.int .i64 last, vF, vQ] 85 (0, 0))
  dn : w.heap.size < D
  res : X.heap[w.heap.size]? = some (.cells #[.int .i64 0, .slice none 0 0, .slice none 0 0] 85 (0, 0))
  fl : kFlt.R 82 X w.heap.size (fun k => w.heap.size ≤ k) vF fs
  qu : kMsg.R 64 X w.heap.size (fun k => w.heap.size ≤ k) vQ ms
  bel : Below w.heap.size w X
section
variable {w X X1 : World} {last : Int} {D : Nat} {vF vQ : Value} {fs : List Flt} {ms : List Msg}
theorem ImgAt.below (h : ImgAt w last D vF vQ fs ms X) (hb : Below X.heap.size X X1) : ImgAt w last D vF vQ fs ms X1 :=
  ⟨(hb.block D (blk_lt h.box)).trans h.box, h.dn, (hb.block _ (blk_lt h.res)).trans h.res, Kd.R_below h.fl hb, Kd.R_below h.qu hb, h.bel.trans (hb.mono h.bel.size)⟩
theorem ImgAt.pushF (h : ImgAt w last D vF vQ fs ms X) {v1 : Value} {fs1 : List Flt} (hR : kFlt.R 82 X1 w.heap.size (fun k => w.heap.size ≤ k) v1 fs1) (hg : X.grownBy X1 vF.ownBlock) : ImgAt w last D v1 vQ fs1 ms (X1.setCell ⟨D, 1, none⟩ v1) := by
  have hD : X1.heap[D]? = some (.cells #[.int .i64 last, vF, vQ] 85 (0, 0)) := blk_grown h.box hg (Kd.R_ne h.fl h.box (by decide))
  refine ⟨by rw [blk_set hD 1 v1]; simp, h.dn, (Below.heap_setCell X1 ⟨D, 1, none⟩ v1 _ (by have := h.dn; show w.heap.size ≠ D; omega)).trans (blk_grown h.res hg (Kd.R_ne h.fl h.res (by decide))), Kd.R_set hR hD (by decide) 1 v1, Kd.R_set (Kd.R_over h.qu h.fl (by decide) hg) hD (by decide) 1 v1, ?_⟩
  exact (h.bel.grown hg h.bel.size (fun k hk => h.fl.1 k hk)).setCell (Nat.le_of_lt h.dn) v1
theorem ImgAt.pushQ (h : ImgAt w last D vF vQ fs ms X) {v1 : Value} {ms1 : List Msg} (hR : kMsg.R 64 X1 w.heap.size (fun k => w.heap.size ≤ k) v1 ms1) (hg : X.grownBy X1 vQ.ownBlock) : ImgAt w last D vF v1 fs ms1 (X1.setCell ⟨D, 2, none⟩ v1) := by
  have hD : X1.heap[D]? = some (.cells #[.int .i64 last, vF, vQ] 85 (0, 0)) := blk_grown h.box hg (Kd.R_ne h.qu h.box (by decide))
  refine ⟨by rw [blk_set hD 2 v1]; simp, h.dn, (Below.heap_setCell X1 ⟨D, 2, none⟩ v1 _ (by have := h.dn; show w.heap.size ≠ D; omega)).trans (blk_grown h.res hg (Kd.R_ne h.qu h.res (by decide))), Kd.R_set (Kd.R_over h.fl h.qu (by decide) hg) hD (by decide) 2 v1, Kd.R_set hR hD (by decide) 2 v1, ?_⟩
  exact (h.bel.grown hg h.bel.size (fun k hk => h.qu.1 k hk)).setCell (Nat.le_of_lt h.dn) v1
end

set_option maxRecDepth 100000 in
set_option maxHeartbeats 2000000 in
theorem image_any {w : World} {base B : Nat} {ok : Nat → Prop} {s : WS} (h : WinAt' w base ok B s) (hok : WOk s) (hpl : WPl s) :
    Calls Try.prog 33 #[.pointer (some ⟨B, 0, none⟩)] w fun e w' => ∃ vF vQ, e = .returned (.agg #[.int .i64 s.last, vF, vQ]) ∧
      kFlt.R 82 w' w.heap.size (fun k => w.heap.size ≤ k) vF s.flights ∧ kMsg.R 64 w' w.heap.size (fun k => w.heap.size ≤ k) vQ s.waits ∧ Below w.heap.size w w' := by
  obtain ⟨vf, vw, bm, hW⟩ := h
  obtain ⟨_, _, c2, c3, c4, _, _, cf⟩ := hW.cells
  obtain ⟨Af, cf', hef⟩ := Kd.R_slice hW.flights
  subst hef
  obtain ⟨Aw, cw, hew, hcw⟩ := Kd.Q_slice hW.waits
  subst hew
  have HW := Aside0.mk hW
  have hBl := blk_lt hW.blk
  have HOK := Aside0.mk hok
  have HPL := Aside0.mk hpl
  have hfl := hok.fl
  have hwl := hok.wl
  clear hok hpl hW cf
  go_enter Try.func33, Try.ntmps33
  go_wp2_with fail
  have hI : ImgAt w s.last (w.heap.size + 1) (.slice none 0 0) (.slice none 0 0) [] [] ((w.alloc (.cells #[.int .i64 0, .slice none 0 0, .slice none 0 0] 85)).alloc (.cells #[.int .i64 s.last, .slice none 0 0, .slice none 0 0] 85)) :=
    ⟨alloc_new2 _ _ _, by omega, alloc_new1 _ _ _, Kd.R_nil _ _ _ _ _, Kd.R_nil _ _ _ _ _, ((Below.refl _ _).alloc (Nat.le_refl _) _).alloc (by simp) _⟩
  generalize (w.alloc (.cells #[.int .i64 0, .slice none 0 0, .slice none 0 0] 85)).alloc (.cells #[.int .i64 s.last, .slice none 0 0, .slice none 0 0] 85) = wa at *
  generalize w.heap.size + 1 = D at *
  have HI := Aside0.mk hI
  clear hI c2
  go_loopg [18] s.flights.length (fun q i wr => ∃ (k : Nat) (vF : Value), k + q = s.flights.length ∧ i = .int .i64 (k : Int) ∧ Aside0 (ImgAt w s.last D vF (.slice none 0 0) (s.flights.take k) [] wr))
  case atStart => exact ⟨0, .slice none 0 0, by omega, rfl, HI⟩
  case round =>
    clear HI c3 c4
    obtain ⟨k, vF, hk, rfl, HM⟩ := hrel
    have HK := Aside0.mk hk
    clear hk
    by_cases hlt : k < s.flights.length
    · have hk1 : (k : Int) < s.flights.length := by omega
      have hC := (Kd.R_reads' (HW.out.below HM.out.bel).flights).2.2
      obtain ⟨ad, Ap, cp, hAd, f0, f1, f2, f3, f4, f5, _, hpC⟩ := flt_at hC k hlt
      subst hAd
      have hsh : (s.flights.getD k noFlt).msg.payload.length ≤ 1099511627776 := by
        rw [List.getD_eq_getElem?_getD, List.getElem?_eq_getElem hlt]
        exact HPL.out.flights _ (List.getElem_mem hlt)
      obtain ⟨f, hf⟩ : ∃ f, s.flights.getD k noFlt = f := ⟨_, rfl⟩
      rw [hf] at f0 f1 f2 f3 f4 f5 hsh hpC
      have HKL := Aside0.mk hlt
      have HFK := Aside0.mk hf
      obtain ⟨fid, ⟨t, pp, q, rt⟩, rel⟩ := f
      dsimp only at *
      have HC := Aside0.mk (Kd.C_alloc hpC (.cells #[.int .i64 fid, .string t, .slice Ap pp.length cp, .int .i64 q, .bool rt, .bool rel] 112))
      have HM1 := Aside0.mk (HM.out.below ((Below.refl wr.heap.size wr).alloc (Nat.le_refl _) (.cells #[.int .i64 fid, .string t, .slice Ap pp.length cp, .int .i64 q, .bool rt, .bool rel] 112)))
      have HBX := Aside0.mk (alloc_new wr (.cells #[.int .i64 fid, .string t, .slice Ap pp.length cp, .int .i64 q, .bool rt, .bool rel] 112))
      have hDl : D < wr.heap.size := blk_lt HM.out.box
      clear hC hpC hf hlt
      go_wp2_with fail
      generalize hX : wr.alloc _ = X at *
      have hPl : wr.heap.size < X.heap.size := blk_lt HBX.out
      clear hX f0 f1 f2 f3 f4 f5
      have b0 : X.cell? ⟨wr.heap.size, 0, none⟩ = some (.int .i64 fid) := blk_cell HBX.out 0
      have b1 : X.cell? ⟨wr.heap.size, 1, none⟩ = some (.string t) := blk_cell HBX.out 1
      have b2 : X.cell? ⟨wr.heap.size, 2, none⟩ = some (.slice Ap pp.length cp) := blk_cell HBX.out 2
      have b3 : X.cell? ⟨wr.heap.size, 3, none⟩ = some (.int .i64 q) := blk_cell HBX.out 3
      have b4 : X.cell? ⟨wr.heap.size, 4, none⟩ = some (.bool rt) := blk_cell HBX.out 4
      have b5 : X.cell? ⟨wr.heap.size, 5, none⟩ = some (.bool rel) := blk_cell HBX.out 5
      have d1 : X.cell? ⟨D, 1, none⟩ = some vF := blk_cell HM1.out.box 1
      generalize wr.heap.size = Pb at *
      have hne1 : ¬ Pb = D := by omega
      have hne2 : ¬ D = Pb := by omega
      have HOwn := Aside0.mk (own_any ⟨t, pp, q, rt⟩ Ap cp X.drew (Kd.C_drew HC.out) hsh)
      have hwX := HM1.out.bel.size
      refine start_ (n := 14) (S := fun w' => w'.cell? ⟨Pb, 0, none⟩ = some (.int .i64 fid) ∧ w'.cell? ⟨Pb, 1, none⟩ = some (.string t) ∧ w'.cell? ⟨Pb, 2, none⟩ = some (.slice Ap pp.length cp) ∧ w'.cell? ⟨Pb, 3, none⟩ = some (.int .i64 q) ∧ w'.cell? ⟨Pb, 4, none⟩ = some (.bool rt) ∧ w'.cell? ⟨Pb, 5, none⟩ = some (.bool rel) ∧ w'.cell? ⟨D, 1, none⟩ = some vF) (ds := [13]) #[false, false, false, false, false, false, false, false, false, false, false, false, false, false] (by kernel_rfl) rfl rfl ⟨b0, b1, b2, b3, b4, b5, d1⟩ (fun hHeld => ?_)
      refine pure_ (i := 0) (N := some 22) (v := ?_) (a' := ?_) #[true, false, false, false, false, false, false, false, false, false, false, false, false, false] rfl rfl (by kernel_rfl) (fun _ _ _ h => h) (Or.inl ⟨by rfl, ?_⟩) ?_ ?_
      rotate_left
      · intro w'
        go_simp
        with_reducible rfl
      rotate_left
      · simp only [Act.put, List.setIfInBounds_toArray, List.set_cons_zero, List.set_cons_succ, i64_w, i32_w]
        rfl
      refine pure_ (i := 2) (N := some 24) (v := ?_) (a' := ?_) #[true, false, true, false, false, false, false, false, false, false, false, false, false, false] rfl rfl (by kernel_rfl) (fun _ _ _ h => h) (Or.inl ⟨by rfl, ?_⟩) ?_ ?_
      rotate_left
      · intro w'
        go_simp
        with_reducible rfl
      rotate_left
      · simp only [Act.put, List.setIfInBounds_toArray, List.set_cons_zero, List.set_cons_succ, i64_w, i32_w]
        rfl
      refine pure_ (i := 4) (N := some 26) (v := ?_) (a' := ?_) #[true, false, true, false, true, false, false, false, false, false, false, false, false, false] rfl rfl (by kernel_rfl) (fun _ _ _ h => h) (Or.inl ⟨by rfl, ?_⟩) ?_ ?_
      rotate_left
      · intro w'
        go_simp
        with_reducible rfl
      rotate_left
      · simp only [Act.put, List.setIfInBounds_toArray, List.set_cons_zero, List.set_cons_succ, i64_w, i32_w]
        rfl
      refine pure_ (i := 7) (N := some 29) (v := ?_) (a' := ?_) #[true, false, true, false, true, false, false, true, false, false, false, false, false, false] rfl rfl (by kernel_rfl) (fun _ _ _ h => h) (Or.inl ⟨by rfl, ?_⟩) ?_ ?_
      rotate_left
      · intro w'
        go_simp
        with_reducible rfl
      rotate_left
      · simp only [Act.put, List.setIfInBounds_toArray, List.set_cons_zero, List.set_cons_succ, i64_w, i32_w]
        rfl
      refine take_ (i := 1) (N := some 23) (v := ?_) (a' := ?_) #[true, true, true, false, true, false, false, true, false, false, false, false, false, false] rfl rfl (by kernel_rfl) (fun _ _ _ h => h) (Or.inl ⟨by rfl, ?_⟩) hHeld ?_ ?_
      rotate_left
      · rintro w' ⟨s0, s1, s2, s3, s4, s5, s6⟩
        go_simp
        with_reducible rfl
      rotate_left
      · simp only [Act.put, List.setIfInBounds_toArray, List.set_cons_zero, List.set_cons_succ, i64_w, i32_w]
        rfl
      refine take_ (i := 3) (N := some 25) (v := ?_) (a' := ?_) #[true, true, true, true, true, false, false, true, false, false, false, false, false, false] rfl rfl (by kernel_rfl) (fun _ _ _ h => h) (Or.inl ⟨by rfl, ?_⟩) hHeld ?_ ?_
      rotate_left
      · rintro w' ⟨s0, s1, s2, s3, s4, s5, s6⟩
        go_simp
        with_reducible rfl
      rotate_left
      · simp only [Act.put, List.setIfInBounds_toArray, List.set_cons_zero, List.set_cons_succ, i64_w, i32_w]
        rfl
      refine take_ (i := 5) (N := some 27) (v := ?_) (a' := ?_) #[true, true, true, true, true, true, false, true, false, false, false, false, false, false] rfl rfl (by kernel_rfl) (fun _ _ _ h => h) (Or.inl ⟨by rfl, ?_⟩) hHeld ?_ ?_
      rotate_left
      · rintro w' ⟨s0, s1, s2, s3, s4, s5, s6⟩
        go_simp
        with_reducible rfl
      rotate_left
      · simp only [Act.put, List.setIfInBounds_toArray, List.set_cons_zero, List.set_cons_succ, i64_w, i32_w]
        rfl
      refine take_ (i := 8) (N := some 30) (v := ?_) (a' := ?_) #[true, true, true, true, true, true, false, true, true, false, false, false, false, false] rfl rfl (by kernel_rfl) (fun _ _ _ h => h) (Or.inl ⟨by rfl, ?_⟩) hHeld ?_ ?_
      rotate_left
      · rintro w' ⟨s0, s1, s2, s3, s4, s5, s6⟩
        go_simp
        with_reducible rfl
      rotate_left
      · simp only [Act.put, List.setIfInBounds_toArray, List.set_cons_zero, List.set_cons_succ, i64_w, i32_w]
        rfl
      refine one_ (i := 6) (N := some 28) #[true, true, true, true, true, true, true, true, true, false, false, false, false, false] rfl rfl (by kernel_rfl) (by decide) (fun K hK => ?_)
      refine goes_ Try.func65 (by kernel_rfl) rfl #[.agg #[.string t, .slice Ap pp.length cp, .int .i64 q, .bool rt]] (by rfl) rfl rfl (by simp only [List.map_toArray, List.map_cons, List.map_nil]; rfl) ?_
      with_reducible refine (HOwn.out).mono ?_
      rintro e w3 ⟨A', c', rfl, hR, hb⟩
      refine ⟨_, rfl, ?_⟩
      have HM3 := Aside0.mk ((HM1.out.below (below_drew (Below.refl _ _))).below hb)
      have HR3 := Aside0.mk hR
      have HB3 := Aside0.mk ((hb.block Pb hPl).trans HBX.out)
      have z0 := (hb.cell (p := ⟨Pb, 0, none⟩) hPl).trans b0
      have z1 := (hb.cell (p := ⟨Pb, 1, none⟩) hPl).trans b1
      have z2 := (hb.cell (p := ⟨Pb, 2, none⟩) hPl).trans b2
      have z3 := (hb.cell (p := ⟨Pb, 3, none⟩) hPl).trans b3
      have z4 := (hb.cell (p := ⟨Pb, 4, none⟩) hPl).trans b4
      have z5 := (hb.cell (p := ⟨Pb, 5, none⟩) hPl).trans b5
      have e1 : w3.cell? ⟨D, 1, none⟩ = some vF := blk_cell HM3.out.box 1
      clear hR hb
      refine hK.out _ _ ⟨z0, z1, z2, z3, z4, z5, e1⟩ (fun hHeld => ?_)
      clear hK K
      refine norm_ (a' := ?_) ?_ ?_
      rotate_left
      · show Act.put _ (some 28) _ = _
        simp only [Act.put, List.setIfInBounds_toArray, List.set_cons_zero, List.set_cons_succ, i64_w, i32_w]
        rfl
      refine pure_ (i := 9) (N := some 31) (v := ?_) (a' := ?_) #[true, true, true, true, true, true, true, true, true, true, false, false, false, false] rfl rfl (by kernel_rfl) (fun _ _ _ h => h) (Or.inl ⟨by rfl, ?_⟩) ?_ ?_
      rotate_left
      · intro w'
        go_simp
        with_reducible rfl
      rotate_left
      · simp only [Act.put, List.setIfInBounds_toArray, List.set_cons_zero, List.set_cons_succ, i64_w, i32_w]
        rfl
      refine one_ (i := 10) (N := some 32) #[true, true, true, true, true, true, true, true, true, true, true, false, false, false] rfl rfl (by kernel_rfl) (by decide) (fun K hK => ?_)
      refine value_ (w1 := ?_) (v := ?_) (by rfl) rfl ?_ ?_
      rotate_left 2
      · go_simp
        constructor
        · rfl
        · rfl
      refine hK.out _ _ ⟨(World.cell?_alloc_past _ _ _ (blk_lt HB3.out)).trans z0, (World.cell?_alloc_past _ _ _ (blk_lt HB3.out)).trans z1, (World.cell?_alloc_past _ _ _ (blk_lt HB3.out)).trans z2, (World.cell?_alloc_past _ _ _ (blk_lt HB3.out)).trans z3, (World.cell?_alloc_past _ _ _ (blk_lt HB3.out)).trans z4, (World.cell?_alloc_past _ _ _ (blk_lt HB3.out)).trans z5, (World.cell?_alloc_past _ _ _ (blk_lt HM3.out.box)).trans e1⟩ (fun hHeld => ?_)
      clear hK K
      refine norm_ (a' := ?_) ?_ ?_
      rotate_left
      · show Act.put _ (some 32) _ = _
        simp only [Act.put, List.setIfInBounds_toArray, List.set_cons_zero, List.set_cons_succ, i64_w, i32_w]
        rfl
      refine one_ (i := 11) (N := some 33) #[true, true, true, true, true, true, true, true, true, true, true, true, false, false] rfl rfl (by kernel_rfl) (by decide) (fun K hK => ?_)
      refine Kd.R_append_step kFlt (w0 := w) w.heap.size (by rfl) (.tmp 23) (.tmp 32) 83 82 (.agg noF) 72 (by rfl) Try.underlying83 infoAFl (by rfl) (by decide) (by omega) vF (s.flights.take k) ⟨fid, ⟨t, pp, q, rt⟩, rel⟩ [.int .i64 fid, .string t, .slice A' pp.length c', .int .i64 q, .bool rt, .bool rel] (fun k => w.heap.size ≤ k) (fun k => X.heap.size ≤ k) (by rfl) (by rfl) ?hp ?hokp ?hfresh ?HO ?HB ?hbase ?hl ?_
      case hp => exact flt_M_mk (f := ⟨fid, ⟨t, pp, q, rt⟩, rel⟩) (Kd.R_lower HR3.out hwX)
      case hokp => exact fun k hk => ⟨Nat.le_trans hwX hk, fun e => by have := Kd.R_lt HM1.out.fl k e.symm; omega⟩
      case hfresh => exact fun k hk => Nat.le_trans HM3.out.bel.size hk
      case HO => exact HM3.out.fl
      case HB => exact HM3.out.bel
      case hbase => exact HM3.out.bel.size
      case hl => simp only [List.length_take]; omega
      intro v1 w5 hq hbl hg hat
      obtain ⟨A1, c1, hev⟩ := Kd.R_slice hq
      have HP5 := Aside0.mk (HM3.out.pushF hq hg)
      have g1 : w5.cell? ⟨D, 1, none⟩ = some vF := blk_cell (blk_grown HM3.out.box hg (Kd.R_ne HM3.out.fl HM3.out.box (by decide))) 1
      have g2 : w5.frozen? ⟨D, 1, none⟩ = false := blk_frozen (blk_grown HM3.out.box hg (Kd.R_ne HM3.out.fl HM3.out.box (by decide))) 1
      have hb5 := blk_grown HB3.out hg (Kd.R_ne HM3.out.fl HB3.out (by decide))
      subst hev
      refine hK.out _ _ ⟨blk_cell hb5 0, blk_cell hb5 1, blk_cell hb5 2, blk_cell hb5 3, blk_cell hb5 4, blk_cell hb5 5, g1⟩ (fun hHeld => ?_)
      clear hK K
      refine norm_ (a' := ?_) ?_ ?_
      rotate_left
      · show Act.put _ (some 33) _ = _
        simp only [Act.put, List.setIfInBounds_toArray, List.set_cons_zero, List.set_cons_succ, i64_w, i32_w]
        rfl
      refine pure_ (i := 12) (N := some 34) (v := ?_) (a' := ?_) #[true, true, true, true, true, true, true, true, true, true, true, true, true, false] rfl rfl (by kernel_rfl) (fun _ _ _ h => h) (Or.inl ⟨by rfl, ?_⟩) ?_ ?_
      rotate_left
      · intro w'
        go_simp
        with_reducible rfl
      rotate_left
      · simp only [Act.put, List.setIfInBounds_toArray, List.set_cons_zero, List.set_cons_succ, i64_w, i32_w]
        rfl
      refine last_ (i := 13) (N := none) #[true, true, true, true, true, true, true, true, true, true, true, true, true, true] rfl rfl (by kernel_rfl) (by decide) (fun K hK => ?_)
      refine skip_ (w1 := ?_) (by rfl) rfl ?_ ?_
      rotate_left
      · go_simp
        rfl
      refine hK.out _ _ ?_
      clear hK K
      refine done_ (by kernel_rfl) ?_
      all_goals
        have hlen : (s.flights.take k ++ [(⟨fid, ⟨t, pp, q, rt⟩, rel⟩ : Flt)]).length = k + 1 := by
          have := HKL.out
          simp only [List.length_append, List.length_take, List.length_singleton]
          omega
        have e : s.flights.take (k + 1) = s.flights.take k ++ [⟨fid, ⟨t, pp, q, rt⟩, rel⟩] := by
          have hk := HKL.out
          have hf := HFK.out
          rw [List.getD_eq_getElem?_getD, List.getElem?_eq_getElem hk] at hf
          rw [List.take_succ_eq_append_getElem hk]
          rw [show s.flights[k] = ⟨fid, ⟨t, pp, q, rt⟩, rel⟩ from hf]
        have hp5 := HP5.out
        have hl6 : (s.flights.take (k + 1)).length = min k s.flights.length + 1 := by have := HKL.out; simp only [List.length_take]; omega
        rw [← e, hl6] at hp5
        have HP6 := Aside0.mk hp5
        clear hlen e hp5 HP5 hl6
        go_wp2_with fail
        go_roundg (s.flights.length - (k + 1))
        case measure => have := HK.out; have := HKL.out; omega
        case rel =>
          exact ⟨k + 1, _, by have := HKL.out; omega, by go_num, HP6⟩
    · have hk1 : decide ((k : Int) < s.flights.length) = false := decide_eq_false (by omega)
      have hk2 : decide (k < s.flights.length) = false := decide_eq_false hlt
      have hke : s.flights.take k = s.flights := List.take_of_length_le (by omega)
      rw [hke] at HM
      have hB3 : wr.heap[B]? = _ := (HM.out.bel.block B hBl).trans HW.out.blk
      have c4 : wr.cell? ⟨B, 4, none⟩ = some (.slice Aw s.waits.length cw) := blk_cell hB3 4
      clear hlt hke hB3 HK
      go_wp2_with fail
      have HMF := HM
      clear hk1 hk2
      go_loopg [41] s.waits.length (fun q i wr => ∃ (k : Nat) (vQ : Value), k + q = s.waits.length ∧ i = .int .i64 (k : Int) ∧ Aside0 (ImgAt w s.last D vF vQ s.flights (s.waits.take k) wr))
      case atStart => exact ⟨0, .slice none 0 0, by omega, rfl, HM⟩
      case round =>
        clear HM HMF c4
        obtain ⟨k, vQ, hk, rfl, HM⟩ := hrel
        have HK := Aside0.mk hk
        clear hk
        by_cases hlt : k < s.waits.length
        · have hk1 : (k : Int) < s.waits.length := by omega
          have hC := (Kd.Q_reads' (HW.out.below HM.out.bel).waits).2.2
          obtain ⟨ad, Ap, cp, hAd, f1, f2, f3, f4, _, hpC⟩ := msg_at hC k hlt
          subst hAd
          have hsh : (s.waits.getD k noMsg).payload.length ≤ 1099511627776 := by
            rw [List.getD_eq_getElem?_getD, List.getElem?_eq_getElem hlt]
            exact HPL.out.waits _ (List.getElem_mem hlt)
          obtain ⟨m, hf⟩ : ∃ m, s.waits.getD k noMsg = m := ⟨_, rfl⟩
          rw [hf] at f1 f2 f3 f4 hsh hpC
          have HKL := Aside0.mk hlt
          have HFK := Aside0.mk hf
          obtain ⟨t, pp, q, rt⟩ := m
          dsimp only at *
          have HC := Aside0.mk (Kd.C_alloc hpC (.cells #[.string t, .slice Ap pp.length cp, .int .i64 q, .bool rt] 64))
          have HM1 := Aside0.mk (HM.out.below ((Below.refl wr.heap.size wr).alloc (Nat.le_refl _) (.cells #[.string t, .slice Ap pp.length cp, .int .i64 q, .bool rt] 64)))
          have HBX := Aside0.mk (alloc_new wr (.cells #[.string t, .slice Ap pp.length cp, .int .i64 q, .bool rt] 64))
          have hDl : D < wr.heap.size := blk_lt HM.out.box
          have HQL := Aside0.mk (Kd.R_lt HM.out.qu)
          clear hC hpC hf hlt
          go_wp2_with fail
          generalize hX : wr.alloc _ = X at *
          have hPl : wr.heap.size < X.heap.size := blk_lt HBX.out
          clear hX f1 f2 f3 f4
          have b1 : X.cell? ⟨wr.heap.size, 0, none⟩ = some (.string t) := blk_cell HBX.out 0
          have b2 : X.cell? ⟨wr.heap.size, 1, none⟩ = some (.slice Ap pp.length cp) := blk_cell HBX.out 1
          have b3 : X.cell? ⟨wr.heap.size, 2, none⟩ = some (.int .i64 q) := blk_cell HBX.out 2
          have b4 : X.cell? ⟨wr.heap.size, 3, none⟩ = some (.bool rt) := blk_cell HBX.out 3
          have d1 : X.cell? ⟨D, 2, none⟩ = some vQ := blk_cell HM1.out.box 2
          generalize wr.heap.size = Pb at *
          have hne1 : ¬ Pb = D := by omega
          have hne2 : ¬ D = Pb := by omega
          have HOwn := Aside0.mk (own_any ⟨t, pp, q, rt⟩ Ap cp X.drew (Kd.C_drew HC.out) hsh)
          have hwX := HM1.out.bel.size
          refine start_ (n := 8) (S := fun w' => w'.cell? ⟨Pb, 0, none⟩ = some (.string t) ∧ w'.cell? ⟨Pb, 1, none⟩ = some (.slice Ap pp.length cp) ∧ w'.cell? ⟨Pb, 2, none⟩ = some (.int .i64 q) ∧ w'.cell? ⟨Pb, 3, none⟩ = some (.bool rt) ∧ w'.cell? ⟨D, 2, none⟩ = some vQ) (ds := [7]) #[false, false, false, false, false, false, false, false] (by kernel_rfl) rfl rfl ⟨b1, b2, b3, b4, d1⟩ (fun hHeld => ?_)
          refine pure_ (i := 0) (N := some 45) (v := ?_) (a' := ?_) #[true, false, false, false, false, false, false, false] rfl rfl (by kernel_rfl) (fun _ _ _ h => h) (Or.inl ⟨by rfl, ?_⟩) ?_ ?_
          rotate_left
          · intro w'
            go_simp
            with_reducible rfl
          rotate_left
          · simp only [Act.put, List.setIfInBounds_toArray, List.set_cons_zero, List.set_cons_succ, i64_w, i32_w]
            rfl
          refine take_ (i := 1) (N := some 46) (v := ?_) (a' := ?_) #[true, true, false, false, false, false, false, false] rfl rfl (by kernel_rfl) (fun _ _ _ h => h) (Or.inl ⟨by rfl, ?_⟩) hHeld ?_ ?_
          rotate_left
          · rintro w' ⟨s0, s1, s2, s3, s4⟩
            go_simp
            with_reducible rfl
          rotate_left
          · simp only [Act.put, List.setIfInBounds_toArray, List.set_cons_zero, List.set_cons_succ, i64_w, i32_w]
            rfl
          refine take_ (i := 2) (N := some 47) (v := ?_) (a' := ?_) #[true, true, true, false, false, false, false, false] rfl rfl (by kernel_rfl) (fun _ _ _ h => h) (Or.inl ⟨by rfl, ?_⟩) hHeld ?_ ?_
          rotate_left
          · rintro w' ⟨s0, s1, s2, s3, s4⟩
            go_simp
            with_reducible rfl
          rotate_left
          · simp only [Act.put, List.setIfInBounds_toArray, List.set_cons_zero, List.set_cons_succ, i64_w, i32_w]
            rfl
          refine one_ (i := 3) (N := some 48) #[true, true, true, true, false, false, false, false] rfl rfl (by kernel_rfl) (by decide) (fun K hK => ?_)
          refine goes_ Try.func65 (by kernel_rfl) rfl #[.agg #[.string t, .slice Ap pp.length cp, .int .i64 q, .bool rt]] (by rfl) rfl rfl (by simp only [List.map_toArray, List.map_cons, List.map_nil]; rfl) ?_
          with_reducible refine (HOwn.out).mono ?_
          rintro e w3 ⟨A', c', rfl, hR, hb⟩
          refine ⟨_, rfl, ?_⟩
          have HM3 := Aside0.mk ((HM1.out.below (below_drew (Below.refl _ _))).below hb)
          have HR3 := Aside0.mk hR
          have HB3 := Aside0.mk ((hb.block Pb hPl).trans HBX.out)
          have z0 := (hb.cell (p := ⟨Pb, 0, none⟩) hPl).trans b1
          have z1 := (hb.cell (p := ⟨Pb, 1, none⟩) hPl).trans b2
          have z2 := (hb.cell (p := ⟨Pb, 2, none⟩) hPl).trans b3
          have z3 := (hb.cell (p := ⟨Pb, 3, none⟩) hPl).trans b4
          have e1 : w3.cell? ⟨D, 2, none⟩ = some vQ := blk_cell HM3.out.box 2
          clear hR hb
          refine hK.out _ _ ⟨z0, z1, z2, z3, e1⟩ (fun hHeld => ?_)
          clear hK K
          refine norm_ (a' := ?_) ?_ ?_
          rotate_left
          · show Act.put _ (some 48) _ = _
            simp only [Act.put, List.setIfInBounds_toArray, List.set_cons_zero, List.set_cons_succ, i64_w, i32_w]
            rfl
          refine one_ (i := 4) (N := some 49) #[true, true, true, true, true, false, false, false] rfl rfl (by kernel_rfl) (by decide) (fun K hK => ?_)
          refine value_ (w1 := ?_) (v := ?_) (by rfl) rfl ?_ ?_
          rotate_left 2
          · go_simp
            constructor
            · rfl
            · rfl
          refine hK.out _ _ ⟨(World.cell?_alloc_past _ _ _ (blk_lt HB3.out)).trans z0, (World.cell?_alloc_past _ _ _ (blk_lt HB3.out)).trans z1, (World.cell?_alloc_past _ _ _ (blk_lt HB3.out)).trans z2, (World.cell?_alloc_past _ _ _ (blk_lt HB3.out)).trans z3, (World.cell?_alloc_past _ _ _ (blk_lt HM3.out.box)).trans e1⟩ (fun hHeld => ?_)
          clear hK K
          refine norm_ (a' := ?_) ?_ ?_
          rotate_left
          · show Act.put _ (some 49) _ = _
            simp only [Act.put, List.setIfInBounds_toArray, List.set_cons_zero, List.set_cons_succ, i64_w, i32_w]
            rfl
          refine one_ (i := 5) (N := some 50) #[true, true, true, true, true, true, false, false] rfl rfl (by kernel_rfl) (by decide) (fun K hK => ?_)
          refine Kd.R_append_step kMsg (w0 := w) w.heap.size (by rfl) (.tmp 46) (.tmp 49) 71 64 (.agg #[.string ⟨#[]⟩, .slice none 0 0, .int .i64 0, .bool false]) 56 (by rfl) Try.underlying71 infoMsg (by rfl) (by decide) (by omega) vQ (s.waits.take k) ⟨t, pp, q, rt⟩ [.string t, .slice A' pp.length c', .int .i64 q, .bool rt] (fun k => w.heap.size ≤ k) (fun k => X.heap.size ≤ k) (by rfl) (by rfl) ?hp ?hokp ?hfresh ?HO ?HB ?hbase ?hl ?_
          case hp => exact msg_M_mk (m := ⟨t, pp, q, rt⟩) (Kd.R_lower HR3.out hwX)
          case hokp => exact fun k hk => ⟨Nat.le_trans hwX hk, fun e => by have := Kd.R_lt HM1.out.qu k e.symm; omega⟩
          case hfresh => exact fun k hk => Nat.le_trans HM3.out.bel.size hk
          case HO => exact HM3.out.qu
          case HB => exact HM3.out.bel
          case hbase => exact HM3.out.bel.size
          case hl => simp only [List.length_take]; omega
          intro v1 w5 hq hbl hg hat
          obtain ⟨A1, c1, hev⟩ := Kd.R_slice hq
          have HP5 := Aside0.mk (HM3.out.pushQ hq hg)
          have g1 : w5.cell? ⟨D, 2, none⟩ = some vQ := blk_cell (blk_grown HM3.out.box hg (Kd.R_ne HM3.out.qu HM3.out.box (by decide))) 2
          have g2 : w5.frozen? ⟨D, 2, none⟩ = false := blk_frozen (blk_grown HM3.out.box hg (Kd.R_ne HM3.out.qu HM3.out.box (by decide))) 2
          have hb5 := blk_grown HB3.out hg (fun e => by have := HQL.out Pb e.symm; omega)
          subst hev
          refine hK.out _ _ ⟨blk_cell hb5 0, blk_cell hb5 1, blk_cell hb5 2, blk_cell hb5 3, g1⟩ (fun hHeld => ?_)
          clear hK K
          refine norm_ (a' := ?_) ?_ ?_
          rotate_left
          · show Act.put _ (some 50) _ = _
            simp only [Act.put, List.setIfInBounds_toArray, List.set_cons_zero, List.set_cons_succ, i64_w, i32_w]
            rfl
          refine pure_ (i := 6) (N := some 51) (v := ?_) (a' := ?_) #[true, true, true, true, true, true, true, false] rfl rfl (by kernel_rfl) (fun _ _ _ h => h) (Or.inl ⟨by rfl, ?_⟩) ?_ ?_
          rotate_left
          · intro w'
            go_simp
            with_reducible rfl
          rotate_left
          · simp only [Act.put, List.setIfInBounds_toArray, List.set_cons_zero, List.set_cons_succ, i64_w, i32_w]
            rfl
          refine last_ (i := 7) (N := none) #[true, true, true, true, true, true, true, true] rfl rfl (by kernel_rfl) (by decide) (fun K hK => ?_)
          refine skip_ (w1 := ?_) (by rfl) rfl ?_ ?_
          rotate_left
          · go_simp
            rfl
          refine hK.out _ _ ?_
          clear hK K
          refine done_ (by kernel_rfl) ?_
          all_goals
            have e : s.waits.take (k + 1) = s.waits.take k ++ [⟨t, pp, q, rt⟩] := by
              have hk := HKL.out
              have hf := HFK.out
              rw [List.getD_eq_getElem?_getD, List.getElem?_eq_getElem hk] at hf
              rw [List.take_succ_eq_append_getElem hk]
              rw [show s.waits[k] = ⟨t, pp, q, rt⟩ from hf]
            have hp5 := HP5.out
            have hl6 : (s.waits.take (k + 1)).length = min k s.waits.length + 1 := by have := HKL.out; simp only [List.length_take]; omega
            rw [← e, hl6] at hp5
            have HP6 := Aside0.mk hp5
            clear e hp5 HP5 hl6
            go_wp2_with fail
            go_roundg (s.waits.length - (k + 1))
            case measure => have := HK.out; have := HKL.out; omega
            case rel => exact ⟨k + 1, _, by have := HKL.out; omega, by go_num, HP6⟩
        · have hk1 : decide ((k : Int) < s.waits.length) = false := decide_eq_false (by omega)
          have hk2 : decide (k < s.waits.length) = false := decide_eq_false hlt
          have hke : s.waits.take k = s.waits := List.take_of_length_le (by omega)
          rw [hke] at HM
          obtain ⟨AF, cF, hvF⟩ := Kd.R_slice HM.out.fl
          obtain ⟨AQ, cQ, hvQ⟩ := Kd.R_slice HM.out.qu
          have m0 : wr.cell? ⟨D, 0, none⟩ = some (.int .i64 s.last) := blk_cell HM.out.box 0
          have m1 : wr.cell? ⟨D, 1, none⟩ = some vF := blk_cell HM.out.box 1
          have m2 : wr.cell? ⟨D, 2, none⟩ = some vQ := blk_cell HM.out.box 2
          subst hvF hvQ
          clear hlt hke HK
          have hR1 : kFlt.R 82 (wr.setRow w.heap.size #[.int .i64 s.last, .slice AF s.flights.length cF, .slice AQ s.waits.length cQ]) w.heap.size (fun k => w.heap.size ≤ k) (.slice AF s.flights.length cF) s.flights :=
            Kd.R_mono (Kd.R_step (Kd.R_types HM.out.fl HM.out.res (by decide)) (fun k hk _ => setRow_far hk.2 _)) (fun k hk => hk.1)
          have hR2 : kMsg.R 64 (wr.setRow w.heap.size #[.int .i64 s.last, .slice AF s.flights.length cF, .slice AQ s.waits.length cQ]) w.heap.size (fun k => w.heap.size ≤ k) (.slice AQ s.waits.length cQ) s.waits :=
            Kd.R_mono (Kd.R_step (Kd.R_types HM.out.qu HM.out.res (by decide)) (fun k hk _ => setRow_far hk.2 _)) (fun k hk => hk.1)
          have HF := Aside0.mk (And.intro hR1 (And.intro hR2 (setRow_below HM.out.bel (Nat.le_refl _) #[.int .i64 s.last, .slice AF s.flights.length cF, .slice AQ s.waits.length cQ])))
          clear hR1 hR2
          go_wp2_with (refine wpList_store_row rfl 85 _ _ rfl w.heap.size #[.int .i64 s.last, .slice AF s.flights.length cF, .slice AQ s.waits.length cQ] rfl rfl 85 _ HM.out.res awinSize rfl (by simp [Value.oneCell']) ?_)
          exact bodyPost_ret (results_block Try.results33 rfl (setRow_block HM.out.res) Try.underlying85 rfl awinSize) rfl ⟨_, _, rfl, HF.out.1, HF.out.2.1, HF.out.2.2⟩
end Go.Proofs.Ytjccmlmkcjmicaa.Win

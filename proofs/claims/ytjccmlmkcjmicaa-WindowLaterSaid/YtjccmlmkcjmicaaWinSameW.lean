/- The walk of crierlaw12.sameWindow, of two images that read alike. No statement of the program. -/
import Derived.Test.YtjccmlmkcjmicaaWinSame
import Derived.Test.YtjccmlmkcjmicaaWLast
import Derived.Deep.DeepCutAuto
import Derived.Deep.CutRange
namespace Go.Proofs.Ytjccmlmkcjmicaa.Win
open Go Go.RowKit Go.Maps Go.MapKept Go.ChangeMaps Go.Proofs.YtjccmlmkcjmicaaW.PrintWords Go.Proofs.YtjccmlmkcjmicaaW.PrintLast Go.Proofs.Ytjccmlmkcjmicaa.Kinds
set_option linter.unusedVariables false
set_option linter.unusedSimpArgs false

theorem cell_keep {w w' : World} (hb : Below w.heap.size w w') (p : Addr) (v : Value) (h : w.cell? p = some v) : w'.cell? p = some v := by
  have hlt : p.block < w.heap.size := by
    refine Classical.byContradiction (fun hn => ?_)
    unfold World.cell? at h
    rw [Array.getElem?_eq_none (by omega)] at h
    cases h
  exact (hb.cell (p := p) hlt).trans h
theorem sameMsg_self (t : ByteArray) (l : List Int) (q : Int) (r : Bool) : Go.Proofs.Ytjccmlmkcjmicaa.PWindowLater.crierlaw12_sameMessage.f t l q r t l q r = some true := by
  unfold Go.Proofs.Ytjccmlmkcjmicaa.PWindowLater.crierlaw12_sameMessage.f
  simp

set_option maxRecDepth 100000 in
set_option maxHeartbeats 4000000 in
theorem sameW_any (last : Int) (A1 A2 Q1 Q2 : Option Addr) (cF1 cF2 cQ1 cQ2 : Nat) (fs : List Flt) (ms : List Msg) (w : World) (hF1 : kFlt.C w A1 fs.length fs) (hF2 : kFlt.C w A2 fs.length fs) (hQ1 : kMsg.C w Q1 ms.length ms) (hQ2 : kMsg.C w Q2 ms.length ms)
    (hfl : fs.length ≤ 65536) (hml : ms.length ≤ 65536) :
    Calls Try.prog 41 #[.agg #[.int .i64 last, .slice A1 fs.length cF1, .slice Q1 ms.length cQ1], .agg #[.int .i64 last, .slice A2 fs.length cF2, .slice Q2 ms.length cQ2]] w fun e w' => e = .returned (.bool true) ∧ Below w.heap.size w w' := by
  have HF1 := Aside0.mk hF1
  have HF2 := Aside0.mk hF2
  have HQ1 := Aside0.mk hQ1
  have HQ2 := Aside0.mk hQ2
  clear hF1 hF2 hQ1 hQ2
  have e1 : (last != last) = false := by simp
  have e2 : ((fs.length : Int) != fs.length) = false := by simp
  have e3 : ((ms.length : Int) != ms.length) = false := by simp
  go_enter Try.func41, Try.ntmps41
  go_upto_region 1 with fail
  have HB := Aside0.mk (((Below.refl w.heap.size w).alloc (Nat.le_refl _) (.cells #[.int .i64 last, .slice A1 fs.length cF1, .slice Q1 ms.length cQ1] 85)).alloc (by simp) (.cells #[.int .i64 last, .slice A2 fs.length cF2, .slice Q2 ms.length cQ2] 85))
  have HG2 := Aside0.mk (alloc_new2 w (.cells #[.int .i64 last, .slice A1 fs.length cF1, .slice Q1 ms.length cQ1] 85) (.cells #[.int .i64 last, .slice A2 fs.length cF2, .slice Q2 ms.length cQ2] 85))
  have HG1 := Aside0.mk (alloc_new1 w (.cells #[.int .i64 last, .slice A1 fs.length cF1, .slice Q1 ms.length cQ1] 85) (.cells #[.int .i64 last, .slice A2 fs.length cF2, .slice Q2 ms.length cQ2] 85))
  generalize (w.alloc (.cells #[.int .i64 last, .slice A1 fs.length cF1, .slice Q1 ms.length cQ1] 85)).alloc (.cells #[.int .i64 last, .slice A2 fs.length cF2, .slice Q2 ms.length cQ2] 85) = Z at *
  obtain ⟨G1, hG1⟩ : ∃ G1, w.heap.size = G1 := ⟨_, rfl⟩
  obtain ⟨G2, hG2⟩ : ∃ G2, w.heap.size + 1 = G2 := ⟨_, rfl⟩
  rw [hG1] at HG1
  rw [hG2] at HG2
  rw [hG2, hG1]
  have HGB := Aside0.mk (hG1 ▸ HB.out : Below G1 w Z)
  clear hG1 hG2
  have x0 : Z.cell? ⟨G1, 0, none⟩ = some (.int .i64 last) := blk_cell HG1.out 0
  have x1 : Z.cell? ⟨G1, 1, none⟩ = some (.slice A1 fs.length cF1) := blk_cell HG1.out 1
  have x2 : Z.cell? ⟨G1, 2, none⟩ = some (.slice Q1 ms.length cQ1) := blk_cell HG1.out 2
  have y0 : Z.cell? ⟨G2, 0, none⟩ = some (.int .i64 last) := blk_cell HG2.out 0
  have y1 : Z.cell? ⟨G2, 1, none⟩ = some (.slice A2 fs.length cF2) := blk_cell HG2.out 1
  have y2 : Z.cell? ⟨G2, 2, none⟩ = some (.slice Q2 ms.length cQ2) := blk_cell HG2.out 2
  go_wp2_with fail
  clear e1 e2 e3 x0 x1 x2 y0 y1 y2
  go_loopg [5] fs.length (fun q' i wr => ∃ k : Nat, k + q' = fs.length ∧ i = .int .i64 (k : Int) ∧ Aside0 (Below Z.heap.size Z wr))
  case atStart => exact ⟨0, by omega, rfl, ⟨Below.refl _ _⟩⟩
  case round =>
    obtain ⟨k, hk, rfl, HZ⟩ := hrel
    have HK := Aside0.mk hk
    clear hk
    have g1 : wr.cell? ⟨G1, 1, none⟩ = some (.slice A1 fs.length cF1) := cell_keep HZ.out _ _ (blk_cell HG1.out 1)
    have g2 : wr.cell? ⟨G2, 1, none⟩ = some (.slice A2 fs.length cF2) := cell_keep HZ.out _ _ (blk_cell HG2.out 1)
    have HBW := Aside0.mk (HB.out.trans (HZ.out.mono HB.out.size))
    by_cases hlt : k < fs.length
    · have hk1 : (k : Int) < fs.length := by omega
      have hk0 : (0 : Int) ≤ (k : Int) := by omega
      have hk2 : (k : Int) ≤ 65536 := by omega
      obtain ⟨a1, P1, p1, hA1, f0, f1, f2, f3, f4, f5, l1, C1⟩ := flt_at (Kd.C_below HF1.out HBW.out) k hlt
      obtain ⟨a2, P2, p2, hA2, h0, h1, h2, h3, h4, h5, l2, C2⟩ := flt_at (Kd.C_below HF2.out HBW.out) k hlt
      subst hA1 hA2
      generalize fs.getD k noFlt = f at *
      obtain ⟨fid, ⟨t, pp, qq, rt⟩, rel⟩ := f
      dsimp only at *
      have HC := Aside0.mk (And.intro (And.intro l1 C1) (And.intro l2 C2))
      have HKL := Aside0.mk hlt
      clear l1 C1 l2 C2 hlt
      go_upto_region 6 with fail
      go_cut [6, 7] from 32 to 68 (fun s6 s7 wx => ∃ P Q : Nat, s6 = .pointer (some ⟨P, 0, none⟩) ∧ s7 = .pointer (some ⟨Q, 0, none⟩) ∧ Aside0 (wx.heap[P]? = some (.cells #[.int .i64 fid, .string t, .slice P1 pp.length p1, .int .i64 qq, .bool rt, .bool rel] 82 (0, 0)) ∧
        wx.heap[Q]? = some (.cells #[.int .i64 fid, .string t, .slice P2 pp.length p2, .int .i64 qq, .bool rt, .bool rel] 82 (0, 0)) ∧ Below wr.heap.size wr wx))
      case first =>
        go_region_held3 (fun w' => w'.cell? ⟨G1, 1, none⟩ = some (.slice (some a1) fs.length cF1) ∧ w'.cell? ⟨G2, 1, none⟩ = some (.slice (some a2) fs.length cF2) ∧ w'.cell? (a1.add (k * 6)) = some (.int .i64 fid) ∧
            w'.cell? ⟨(a1.add (k * 6)).block, (a1.add (k * 6)).off + 1, none⟩ = some (.string t) ∧ w'.cell? ⟨(a1.add (k * 6)).block, (a1.add (k * 6)).off + 2, none⟩ = some (.slice P1 pp.length p1) ∧ w'.cell? ⟨(a1.add (k * 6)).block, (a1.add (k * 6)).off + 3, none⟩ = some (.int .i64 qq) ∧ w'.cell? ⟨(a1.add (k * 6)).block, (a1.add (k * 6)).off + 4, none⟩ = some (.bool rt) ∧ w'.cell? ⟨(a1.add (k * 6)).block, (a1.add (k * 6)).off + 5, none⟩ = some (.bool rel) ∧ w'.cell? (a2.add (k * 6)) = some (.int .i64 fid) ∧
            w'.cell? ⟨(a2.add (k * 6)).block, (a2.add (k * 6)).off + 1, none⟩ = some (.string t) ∧ w'.cell? ⟨(a2.add (k * 6)).block, (a2.add (k * 6)).off + 2, none⟩ = some (.slice P2 pp.length p2) ∧ w'.cell? ⟨(a2.add (k * 6)).block, (a2.add (k * 6)).off + 3, none⟩ = some (.int .i64 qq) ∧ w'.cell? ⟨(a2.add (k * 6)).block, (a2.add (k * 6)).off + 4, none⟩ = some (.bool rt) ∧ w'.cell? ⟨(a2.add (k * 6)).block, (a2.add (k * 6)).off + 5, none⟩ = some (.bool rel))
          (simp [*, World.cell?_alloc_some])
          (fail)
        all_goals
          go_wp2_with fail
          go_meet
          case rel =>
            first
              | exact ⟨_, _, rfl, rfl, ⟨alloc_new1 wr _ _, alloc_new2 wr _ _, (((Below.refl wr.heap.size wr).alloc (Nat.le_refl _) _).alloc (by simp) _).drew⟩⟩
              | exact ⟨_, _, rfl, rfl, ⟨alloc_new2 wr _ _, alloc_new1 wr _ _, (((Below.refl wr.heap.size wr).alloc (Nat.le_refl _) _).alloc (by simp) _).drew⟩⟩
      case rest =>
        clear g1 g2 f0 f1 f2 f3 f4 f5 h0 h1 h2 h3 h4 h5
        obtain ⟨P, Q, rfl, rfl, HX⟩ := hcut
        have HSM := Aside0.mk (Go.Proofs.Ytjccmlmkcjmicaa.PWindowLater.crierlaw12_sameMessage.calls t P1 p1 pp qq rt t P2 p2 pp qq rt true wc (Kd.C_below HC.out.1.2 HX.out.2.2) HC.out.1.1 (Kd.C_below HC.out.2.2 HX.out.2.2) HC.out.2.1 (sameMsg_self t pp qq rt))
        have x0 : wc.cell? ⟨P, 0, none⟩ = some (.int .i64 fid) := blk_cell HX.out.1 0
        have x1 : wc.cell? ⟨P, 1, none⟩ = some (.string t) := blk_cell HX.out.1 1
        have x2 : wc.cell? ⟨P, 2, none⟩ = some (.slice P1 pp.length p1) := blk_cell HX.out.1 2
        have x3 : wc.cell? ⟨P, 3, none⟩ = some (.int .i64 qq) := blk_cell HX.out.1 3
        have x4 : wc.cell? ⟨P, 4, none⟩ = some (.bool rt) := blk_cell HX.out.1 4
        have x5 : wc.cell? ⟨P, 5, none⟩ = some (.bool rel) := blk_cell HX.out.1 5
        have y0 : wc.cell? ⟨Q, 0, none⟩ = some (.int .i64 fid) := blk_cell HX.out.2.1 0
        have y1 : wc.cell? ⟨Q, 1, none⟩ = some (.string t) := blk_cell HX.out.2.1 1
        have y2 : wc.cell? ⟨Q, 2, none⟩ = some (.slice P2 pp.length p2) := blk_cell HX.out.2.1 2
        have y3 : wc.cell? ⟨Q, 3, none⟩ = some (.int .i64 qq) := blk_cell HX.out.2.1 3
        have y4 : wc.cell? ⟨Q, 4, none⟩ = some (.bool rt) := blk_cell HX.out.2.1 4
        have y5 : wc.cell? ⟨Q, 5, none⟩ = some (.bool rel) := blk_cell HX.out.2.1 5
        have e1 : (fid != fid) = false := by simp
        have e2 : (rel != rel) = false := by simp
        go_wp2_with fail
        refine HSM.out.mono ?_
        rintro e w8 ⟨rfl, hb8⟩
        have HZ8 := Aside0.mk (HZ.out.trans ((HX.out.2.2.trans (hb8.mono HX.out.2.2.size)).mono HZ.out.size))
        clear hb8 HSM x0 x1 x2 x3 x4 x5 y0 y1 y2 y3 y4 y5 e1 e2 HX
        go_wp2_with fail
        go_roundg (fs.length - (k + 1))
        case measure => have := HK.out; have := HKL.out; omega
        case rel => exact ⟨k + 1, by have := HKL.out; omega, by go_num, HZ8⟩
    · have hk1 : decide ((k : Int) < fs.length) = false := decide_eq_false (by omega)
      have hk2 : decide (k < fs.length) = false := decide_eq_false hlt
      clear hlt HK HBW
      go_wp2_with fail
      clear g1 g2 hk1 hk2
      go_loopg [8] ms.length (fun q' i wr => ∃ k : Nat, k + q' = ms.length ∧ i = .int .i64 (k : Int) ∧ Aside0 (Below Z.heap.size Z wr))
      case atStart => exact ⟨0, by omega, rfl, HZ⟩
      case round =>
        clear HZ
        obtain ⟨k, hk, rfl, HZ⟩ := hrel
        have HK := Aside0.mk hk
        clear hk
        have HBW := Aside0.mk (HB.out.trans (HZ.out.mono HB.out.size))
        by_cases hlt : k < ms.length
        · have hk1 : (k : Int) < ms.length := by omega
          have hk0 : (0 : Int) ≤ (k : Int) := by omega
          have hk2 : (k : Int) ≤ 65536 := by omega
          obtain ⟨a1, P1, p1, hA1, x0, x1, x2, x3, l1, C1⟩ := msg_at (Kd.C_below HQ1.out HBW.out) k hlt
          obtain ⟨a2, P2, p2, hA2, y0, y1, y2, y3, l2, C2⟩ := msg_at (Kd.C_below HQ2.out HBW.out) k hlt
          subst hA1 hA2
          have g1 : wr.cell? ⟨G1, 2, none⟩ = some (.slice (some a1) ms.length cQ1) := cell_keep HZ.out _ _ (blk_cell HG1.out 2)
          have g2 : wr.cell? ⟨G2, 2, none⟩ = some (.slice (some a2) ms.length cQ2) := cell_keep HZ.out _ _ (blk_cell HG2.out 2)
          generalize ms.getD k noMsg = m at *
          obtain ⟨t, pp, qq, rt⟩ := m
          dsimp only at *
          have HSM := Aside0.mk (Go.Proofs.Ytjccmlmkcjmicaa.PWindowLater.crierlaw12_sameMessage.calls t P1 p1 pp qq rt t P2 p2 pp qq rt true wr.drew (Kd.C_drew C1) l1 (Kd.C_drew C2) l2 (sameMsg_self t pp qq rt))
          have HKeep := Aside0.mk (fun (w9 : World) (hb : Below wr.drew.heap.size wr.drew w9) (p : Addr) (v : Value) (h : wr.cell? p = some v) => cell_keep hb p v h)
          have HKL := Aside0.mk hlt
          clear l1 C1 l2 C2 hlt
          go_wp2_with fail
          refine start_ (n := 12) (S := fun w' => w'.cell? ⟨G1, 2, none⟩ = some (.slice (some a1) ms.length cQ1) ∧ w'.cell? ⟨G2, 2, none⟩ = some (.slice (some a2) ms.length cQ2) ∧ w'.cell? (a1.add (k * 4)) = some (.string t) ∧ w'.cell? ⟨(a1.add (k * 4)).block, (a1.add (k * 4)).off + 1, none⟩ = some (.slice P1 pp.length p1) ∧ w'.cell? ⟨(a1.add (k * 4)).block, (a1.add (k * 4)).off + 2, none⟩ = some (.int .i64 qq) ∧ w'.cell? ⟨(a1.add (k * 4)).block, (a1.add (k * 4)).off + 3, none⟩ = some (.bool rt) ∧ w'.cell? (a2.add (k * 4)) = some (.string t) ∧ w'.cell? ⟨(a2.add (k * 4)).block, (a2.add (k * 4)).off + 1, none⟩ = some (.slice P2 pp.length p2) ∧ w'.cell? ⟨(a2.add (k * 4)).block, (a2.add (k * 4)).off + 2, none⟩ = some (.int .i64 qq) ∧ w'.cell? ⟨(a2.add (k * 4)).block, (a2.add (k * 4)).off + 3, none⟩ = some (.bool rt)) (ds := []) #[false, false, false, false, false, false, false, false, false, false, false, false] (by kernel_rfl) rfl rfl ⟨g1, g2, x0, x1, x2, x3, y0, y1, y2, y3⟩ (fun hHeld => ?_)
          refine pure_ (i := 0) (N := some 76) (v := ?_) (a' := ?_) #[true, false, false, false, false, false, false, false, false, false, false, false] rfl rfl (by kernel_rfl) (fun _ _ _ h => h) (Or.inl ⟨by rfl, ?_⟩) ?_ ?_
          rotate_left
          · intro w'
            go_simp
            with_reducible rfl
          rotate_left
          · simp only [Act.put, List.setIfInBounds_toArray, List.set_cons_zero, List.set_cons_succ, i64_w, i32_w]
            rfl
          refine pure_ (i := 2) (N := some 78) (v := ?_) (a' := ?_) #[true, false, true, false, false, false, false, false, false, false, false, false] rfl rfl (by kernel_rfl) (fun _ _ _ h => h) (Or.inl ⟨by rfl, ?_⟩) ?_ ?_
          rotate_left
          · intro w'
            go_simp
            with_reducible rfl
          rotate_left
          · simp only [Act.put, List.setIfInBounds_toArray, List.set_cons_zero, List.set_cons_succ, i64_w, i32_w]
            rfl
          refine pure_ (i := 5) (N := some 81) (v := ?_) (a' := ?_) #[true, false, true, false, false, true, false, false, false, false, false, false] rfl rfl (by kernel_rfl) (fun _ _ _ h => h) (Or.inl ⟨by rfl, ?_⟩) ?_ ?_
          rotate_left
          · intro w'
            go_simp
            with_reducible rfl
          rotate_left
          · simp only [Act.put, List.setIfInBounds_toArray, List.set_cons_zero, List.set_cons_succ, i64_w, i32_w]
            rfl
          refine pure_ (i := 7) (N := some 83) (v := ?_) (a' := ?_) #[true, false, true, false, false, true, false, true, false, false, false, false] rfl rfl (by kernel_rfl) (fun _ _ _ h => h) (Or.inl ⟨by rfl, ?_⟩) ?_ ?_
          rotate_left
          · intro w'
            go_simp
            with_reducible rfl
          rotate_left
          · simp only [Act.put, List.setIfInBounds_toArray, List.set_cons_zero, List.set_cons_succ, i64_w, i32_w]
            rfl
          refine take_ (i := 1) (N := some 77) (v := ?_) (a' := ?_) #[true, true, true, false, false, true, false, true, false, false, false, false] rfl rfl (by kernel_rfl) (fun _ _ _ h => h) (Or.inl ⟨by rfl, ?_⟩) hHeld ?_ ?_
          rotate_left
          · rintro w' ⟨s0, s1, s2, s3, s4, s5, s6, s7, s8, s9⟩
            go_simp
            with_reducible rfl
          rotate_left
          · simp only [Act.put, List.setIfInBounds_toArray, List.set_cons_zero, List.set_cons_succ, i64_w, i32_w]
            rfl
          refine pure_ (i := 3) (N := some 79) (v := ?_) (a' := ?_) #[true, true, true, true, false, true, false, true, false, false, false, false] rfl rfl (by kernel_rfl) (fun _ _ _ h => h) (Or.inl ⟨by rfl, ?_⟩) ?_ ?_
          rotate_left
          · intro w'
            go_simp
            with_reducible rfl
          rotate_left
          · simp only [Act.put, List.setIfInBounds_toArray, List.set_cons_zero, List.set_cons_succ, i64_w, i32_w]
            rfl
          refine take_ (i := 4) (N := some 80) (v := ?_) (a' := ?_) #[true, true, true, true, true, true, false, true, false, false, false, false] rfl rfl (by kernel_rfl) (fun _ _ _ h => h) (Or.inl ⟨by rfl, ?_⟩) hHeld ?_ ?_
          rotate_left
          · rintro w' ⟨s0, s1, s2, s3, s4, s5, s6, s7, s8, s9⟩
            go_simp
            with_reducible rfl
          rotate_left
          · simp only [Act.put, List.setIfInBounds_toArray, List.set_cons_zero, List.set_cons_succ, i64_w, i32_w]
            rfl
          refine take_ (i := 6) (N := some 82) (v := ?_) (a' := ?_) #[true, true, true, true, true, true, true, true, false, false, false, false] rfl rfl (by kernel_rfl) (fun _ _ _ h => h) (Or.inl ⟨by rfl, ?_⟩) hHeld ?_ ?_
          rotate_left
          · rintro w' ⟨s0, s1, s2, s3, s4, s5, s6, s7, s8, s9⟩
            go_simp
            with_reducible rfl
          rotate_left
          · simp only [Act.put, List.setIfInBounds_toArray, List.set_cons_zero, List.set_cons_succ, i64_w, i32_w]
            rfl
          refine pure_ (i := 8) (N := some 84) (v := ?_) (a' := ?_) #[true, true, true, true, true, true, true, true, true, false, false, false] rfl rfl (by kernel_rfl) (fun _ _ _ h => h) (Or.inl ⟨by rfl, ?_⟩) ?_ ?_
          rotate_left
          · intro w'
            go_simp
            with_reducible rfl
          rotate_left
          · simp only [Act.put, List.setIfInBounds_toArray, List.set_cons_zero, List.set_cons_succ, i64_w, i32_w]
            rfl
          refine take_ (i := 9) (N := some 85) (v := ?_) (a' := ?_) #[true, true, true, true, true, true, true, true, true, true, false, false] rfl rfl (by kernel_rfl) (fun _ _ _ h => h) (Or.inl ⟨by rfl, ?_⟩) hHeld ?_ ?_
          rotate_left
          · rintro w' ⟨s0, s1, s2, s3, s4, s5, s6, s7, s8, s9⟩
            go_simp
            with_reducible rfl
          rotate_left
          · simp only [Act.put, List.setIfInBounds_toArray, List.set_cons_zero, List.set_cons_succ, i64_w, i32_w]
            rfl
          refine one_ (i := 10) (N := some 86) #[true, true, true, true, true, true, true, true, true, true, true, false] rfl rfl (by kernel_rfl) (by decide) (fun K hK => ?_)
          refine goes_ Try.func35 (by kernel_rfl) rfl #[.agg #[.string t, .slice P1 pp.length p1, .int .i64 qq, .bool rt], .agg #[.string t, .slice P2 pp.length p2, .int .i64 qq, .bool rt]] (by rfl) rfl rfl (by simp only [List.map_toArray, List.map_cons, List.map_nil]; rfl) ?_
          with_reducible refine (HSM.out).mono ?_
          rintro e w9 ⟨rfl, hb9⟩
          refine ⟨_, rfl, ?_⟩
          refine hK.out _ _ ⟨HKeep.out w9 hb9 _ _ g1, HKeep.out w9 hb9 _ _ g2, HKeep.out w9 hb9 _ _ x0, HKeep.out w9 hb9 _ _ x1, HKeep.out w9 hb9 _ _ x2, HKeep.out w9 hb9 _ _ x3, HKeep.out w9 hb9 _ _ y0, HKeep.out w9 hb9 _ _ y1, HKeep.out w9 hb9 _ _ y2, HKeep.out w9 hb9 _ _ y3⟩ (fun hHeld => ?_)
          clear hK K
          refine norm_ (a' := ?_) ?_ ?_
          rotate_left
          · show Act.put _ (some 86) _ = _
            simp only [Act.put, List.setIfInBounds_toArray, List.set_cons_zero, List.set_cons_succ, i64_w, i32_w]
            rfl
          refine pure_ (i := 11) (N := some 87) (v := ?_) (a' := ?_) #[true, true, true, true, true, true, true, true, true, true, true, true] rfl rfl (by kernel_rfl) (fun _ _ _ h => h) (Or.inl ⟨by rfl, ?_⟩) ?_ ?_
          rotate_left
          · intro w'
            go_simp
            with_reducible rfl
          rotate_left
          · simp only [Act.put, List.setIfInBounds_toArray, List.set_cons_zero, List.set_cons_succ, i64_w, i32_w]
            rfl
          refine done_ (by kernel_rfl) ?_
          have HZ9 := Aside0.mk (HZ.out.trans (((below_drew (Below.refl wr.heap.size wr)).trans (hb9.mono (show wr.heap.size ≤ wr.drew.heap.size from Nat.le_refl _))).mono HZ.out.size))
          clear hHeld hb9 x0 x1 x2 x3 y0 y1 y2 y3 g1 g2 HSM HKeep
          go_wp2_with fail
          go_roundg (ms.length - (k + 1))
          case measure => have := HK.out; have := HKL.out; omega
          case rel => exact ⟨k + 1, by have := HKL.out; omega, by go_num, HZ9⟩
        · have g1 : wr.cell? ⟨G1, 2, none⟩ = some (.slice Q1 ms.length cQ1) := cell_keep HZ.out _ _ (blk_cell HG1.out 2)
          have hk1 : decide ((k : Int) < ms.length) = false := decide_eq_false (by omega)
          have hk2 : decide (k < ms.length) = false := decide_eq_false hlt
          clear hlt HK
          go_wp2_with fail
          go_ret
          exact ⟨rfl, HBW.out⟩
end Go.Proofs.Ytjccmlmkcjmicaa.Win

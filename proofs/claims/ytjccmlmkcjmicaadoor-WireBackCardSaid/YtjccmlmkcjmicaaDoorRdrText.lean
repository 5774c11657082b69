/- wire's Reader: Text where the bytes hold one. No statement of the program. -/
import Derived.Test.YtjccmlmkcjmicaaDoorRdrTake
import Derived.Test.YtjccmlmkcjmicaaDoorCheck
namespace Go.Proofs.YtjccmlmkcjmicaaDoor.Rdr
open Go Go.RowKit Go.Proofs.YtjccmlmkcjmicaaDoorW.PrintWords Go.Proofs.YtjccmlmkcjmicaaDoorW.PrintLast Go.Proofs.YtjccmlmkcjmicaaDoorW.PrintMore Go.Proofs.YtjccmlmkcjmicaaDoor.Utf Go.Proofs.YtjccmlmkcjmicaaDoor.Chk
set_option linter.unusedVariables false
set_option linter.unusedSimpArgs false

set_option maxRecDepth 100000 in
set_option maxHeartbeats 1000000 in
theorem text_ok {w : World} {base B : Nat} {l : List Int} {a : Int} (h : RdAt w base B l a (.pointer none)) (ha : 0 ≤ a) (hl : a + 2 ≤ l.length) (ys zs : List Int) (hys : ys = (l.drop a.toNat).take 2)
    (n : Int) (hn : joinG ys = n) (hn0 : 0 ≤ n) (hl2 : a + 2 + n ≤ l.length) (hzs : zs = (l.drop (a + 2).toNat).take n.toNat) (hc : (chk (strOfNums zs)).2 = 0) :
    Calls Tryd.prog 25 #[.pointer (some ⟨B, 0, none⟩)] w fun e w' => e = .returned (.string (strOfNums zs)) ∧ RdAt w' base B l (a + 2 + n) (.pointer none) ∧ Below base w w' := by
  obtain ⟨A, cc, hcc, x0, x1, x2, xf, hC⟩ := h.cells
  clear hC
  have HH := Aside0.mk h
  have HY := Aside0.mk hys
  have HZ := Aside0.mk hzs
  have HL := Aside0.mk hl
  have HL2 := Aside0.mk hl2
  have HN := Aside0.mk hn
  have HC := Aside0.mk hc
  clear h hys hzs hl hl2 hn hc
  go_enter_defers Tryd.func25, Tryd.ntmps25
  go_wp2_with (first
    | (go_at_call 33; refine (number_ok HH.out ha (by decide) HL.out ys HY.out).mono ?_; rintro e w2 ⟨rfl, hR, hB, _⟩; obtain ⟨A2, c2, hc2, y0, y1, y2, yf, _⟩ := hR.cells; have HR := Aside0.mk hR; have HB := Aside0.mk hB; clear hR hB; rw [HN.out])
    | (go_at_call 35; refine (take_ok HR.out (by omega) hn0 HL2.out zs HZ.out).mono ?_; rintro e w3 ⟨A3, c3, rfl, hc3, hC3, hR3, hB3, _⟩; have HS := Kd.C_string (P := Tryd.prog) (c := c3) Tryd.underlying28 Tryd.underlying5 Tryd.underlying9 hC3; have HR3 := Aside0.mk hR3; have HB3 := Aside0.mk hB3; clear hC3 hR3 hB3)
    | (go_at_call 7; refine (check_any (strOfNums zs) _).mono ?_; rintro e w4 ⟨rfl, hB4⟩; rw [HC.out]; have HB4 := Aside0.mk hB4; clear hB4))
  refine leaves_cons (f := 32) (args := #[.pointer (some ⟨B, 0, none⟩), .int .i64 a]) (by simp) (by simp [go_sem]) ?_
  refine (note_idle B a).mono ?_
  rintro e u' w5 ⟨rfl, rfl, rfl⟩
  have hge : base ≤ B := HR3.out.ge
  have hlt : B < w3.heap.size := HR3.out.lt
  exact ⟨_, results_tmp rfl _ _ _, rfl, HR3.out.below HB4.out, (HB.out.trans HB3.out).trans (HB4.out.mono (by omega))⟩
end Go.Proofs.YtjccmlmkcjmicaaDoor.Rdr

/- wire's PutLong and PutData, and the Reader's Number, Long and Data where the bytes are there. No statement of the program. -/
import Derived.Test.YtjccmlmkcjmicaaDoorPuts
import Derived.Test.YtjccmlmkcjmicaaDoorRdrText
namespace Go.Proofs.YtjccmlmkcjmicaaDoor.Rdr
open Go Go.RowKit Go.Proofs.YtjccmlmkcjmicaaDoorW.PrintWords Go.Proofs.YtjccmlmkcjmicaaDoorW.PrintLast Go.Proofs.YtjccmlmkcjmicaaDoorW.PrintMore Go.Proofs.YtjccmlmkcjmicaaDoor.Utf Go.Proofs.YtjccmlmkcjmicaaDoor.Chk
attribute [local go_sem] max2_int min2_int max_two min_two
set_option linter.unusedVariables false
set_option linter.unusedSimpArgs false

set_option maxRecDepth 100000 in
theorem putData_ok (l d : List Int) (A D : Option Addr) (c cd : Nat) (w : World) (hr : (Kd.int .u8).C w A l.length l) (hl : l.length ≤ 1099511627776) (hd : (Kd.int .u8).C w D d.length d) (hdl : d.length ≤ 65535) :
    Calls Tryd.prog 22 #[.slice A l.length c, .slice D d.length cd] w fun e w' => ∃ v, e = .returned (.tuple #[v, .int .i64 0]) ∧ (Kd.int .u8).R 5 w' w.heap.size (fun _ => True) v (l ++ [(d.length : Int) / 256 % 256, (d.length : Int) % 256] ++ d) ∧ Below w.heap.size w w' := by
  have HR := Aside0.mk hr
  have HD := Aside0.mk hd
  have HTS := Aside0.mk hdl
  have b0 : decide ((d.length : Int) > 65535) = false := decide_eq_false (by omega)
  clear hr hd hdl
  go_enter Tryd.func22, Tryd.ntmps22
  go_wp2_with (first
    | (go_at_call 13; refine (putNumber_any l (d.length : Int) A c _ HR.out hl).mono ?_; rintro e w2 ⟨v, rfl, hR, hB⟩; obtain ⟨pre, hpre⟩ : ∃ p, p = l ++ [(d.length : Int) / 256 % 256, (d.length : Int) % 256] := ⟨_, rfl⟩; rw [← hpre] at hR; have HP := Aside0.mk hpre; clear hpre; have HO := Aside0.mk hR; have HB := Aside0.mk hB; clear hR hB)
    | (at_builtin; refine Kd.R_append_rows (Kd.int .u8) (w0 := w) w.heap.size rfl (.tmp 12) (.tmp 13) 28 5 (.int .u8 0) 1 rfl Tryd.underlying28 infoU8 rfl (by decide) (by omega) v pre d _ _ _ (fun _ => True) (fun _ => False) rfl rfl ?aO ?aR (fun _ _ h => h) (fun _ h => h.elim) ?aF ?aB ?aS ?aL ?_))
  case aO => exact HO.out
  case aR => exact Kd.C_below HD.out HB.out
  case aF => exact fun _ _ => trivial
  case aB => exact HB.out
  case aS => exact HB.out.size
  case aL => have := HTS.out; rw [HP.out]; simp; omega
  intro v1 w3 ho hb hg hat
  have HO2 := Aside0.mk ho
  have HB2 := Aside0.mk hb
  clear ho hb hg hat
  go_wp2
  go_ret2
  exact ⟨v1, rfl, by rw [← HP.out]; exact HO2.out, HB2.out⟩

theorem putData_long (d : List Int) (v : Value) (D : Option Addr) (cd : Nat) (w : World) (hdl : 65535 < d.length) :
    Calls Tryd.prog 22 #[v, .slice D d.length cd] w fun e w' => e = .returned (.tuple #[.slice none 0 0, .int .i64 11]) ∧ w' = w := by
  have b0 : decide ((d.length : Int) > 65535) = true := decide_eq_true (by omega)
  go_enter Tryd.func22, Tryd.ntmps22
  go_wp2
  go_ret2
  exact ⟨rfl, rfl⟩

set_option maxRecDepth 100000 in
theorem putLong_any (l : List Int) (n : Int) (A : Option Addr) (c : Nat) (w : World) (hr : (Kd.int .u8).C w A l.length l) (hl : l.length ≤ 1099511627776) :
    Calls Tryd.prog 14 #[.slice A l.length c, .int .i64 n] w fun e w' => ∃ v, e = .returned v ∧ (Kd.int .u8).R 5 w' w.heap.size (fun _ => True) v (l ++ [n / 16777216 % 256, n / 65536 % 256, n / 256 % 256, n % 256]) ∧ Below w.heap.size w w' := by
  have HR := Aside0.mk hr
  clear hr
  go_enter Tryd.func14, Tryd.ntmps14
  go_wp2_with (first
    | (go_at_call 31; refine (own_any l A c _ HR.out hl).mono ?_; rintro e w1 ⟨v, rfl, hR, hB⟩; have HO := Aside0.mk hR; have HB := Aside0.mk hB; have HLI := Aside0.mk (C_lit w1 [n / 16777216 % 256, n / 65536 % 256, n / 256 % 256, n % 256] (by simp)); clear hR hB)
    | (at_builtin; refine Kd.R_append_rows (Kd.int .u8) (w0 := w) w.heap.size rfl (.tmp 6) (.tmp 18) 28 5 (.int .u8 0) 1 rfl Tryd.underlying28 infoU8 rfl (by decide) (by omega) v l [n / 16777216 % 256, n / 65536 % 256, n / 256 % 256, n % 256] _ _ _ (fun _ => True) (fun _ => False) rfl rfl ?aO ?aR (fun _ _ h => h) (fun _ h => h.elim) ?aF ?aB ?aS ?aL ?_))
  case aO => exact Kd.R_alloc HO.out _
  case aR => exact HLI.out
  case aF => exact fun _ _ => trivial
  case aB => exact HB.out.alloc HB.out.size _
  case aS => have := HB.out.size; simp; omega
  case aL => simp; omega
  intro v1 w2 ho hb hg hat
  have HO2 := Aside0.mk ho
  have HB2 := Aside0.mk hb
  clear ho hb hg hat
  go_wp2
  go_ret
  exact ⟨v1, rfl, HO2.out, HB2.out⟩

set_option maxRecDepth 100000 in
theorem rnumber_ok {w : World} {base B : Nat} {l : List Int} {a : Int} (h : RdAt w base B l a (.pointer none)) (ha : 0 ≤ a) (hl : a + 2 ≤ l.length) (ys : List Int) (hys : ys = (l.drop a.toNat).take 2) :
    Calls Tryd.prog 15 #[.pointer (some ⟨B, 0, none⟩)] w fun e w' => e = .returned (.int .i64 (joinG ys)) ∧ RdAt w' base B l (a + 2) (.pointer none) ∧ Below base w w' ∧ Keep w w' B := by
  obtain ⟨A, cc, hcc, x0, x1, x2, xf, hC⟩ := h.cells
  clear hC
  have HH := Aside0.mk h
  have HY := Aside0.mk hys
  have HL := Aside0.mk hl
  clear h hys hl
  go_enter_defers Tryd.func15, Tryd.ntmps15
  go_wp2_with (go_at_call 33; refine (number_ok HH.out ha (by decide) HL.out ys HY.out).mono ?_; rintro e w2 ⟨rfl, hR, hB, hK⟩; have HK := Aside0.mk hK; clear hK; have HR := Aside0.mk hR; have HB := Aside0.mk hB; clear hR hB)
  refine leaves_cons (f := 32) (args := #[.pointer (some ⟨B, 0, none⟩), .int .i64 a]) (by simp) (by simp [go_sem]) ?_
  refine (note_idle B a).mono ?_
  rintro e u' w5 ⟨rfl, rfl, rfl⟩
  exact ⟨_, results_tmp rfl _ _ _, rfl, HR.out, HB.out, HK.out⟩

set_option maxRecDepth 100000 in
theorem rlong_ok {w : World} {base B : Nat} {l : List Int} {a : Int} (h : RdAt w base B l a (.pointer none)) (ha : 0 ≤ a) (hl : a + 4 ≤ l.length) (ys : List Int) (hys : ys = (l.drop a.toNat).take 4) :
    Calls Tryd.prog 18 #[.pointer (some ⟨B, 0, none⟩)] w fun e w' => e = .returned (.int .i64 (joinG ys)) ∧ RdAt w' base B l (a + 4) (.pointer none) ∧ Below base w w' ∧ Keep w w' B := by
  obtain ⟨A, cc, hcc, x0, x1, x2, xf, hC⟩ := h.cells
  clear hC
  have HH := Aside0.mk h
  have HY := Aside0.mk hys
  have HL := Aside0.mk hl
  clear h hys hl
  go_enter_defers Tryd.func18, Tryd.ntmps18
  go_wp2_with (go_at_call 33; refine (number_ok HH.out ha (by decide) HL.out ys HY.out).mono ?_; rintro e w2 ⟨rfl, hR, hB, hK⟩; have HK := Aside0.mk hK; clear hK; have HR := Aside0.mk hR; have HB := Aside0.mk hB; clear hR hB)
  refine leaves_cons (f := 32) (args := #[.pointer (some ⟨B, 0, none⟩), .int .i64 a]) (by simp) (by simp [go_sem]) ?_
  refine (note_idle B a).mono ?_
  rintro e u' w5 ⟨rfl, rfl, rfl⟩
  exact ⟨_, results_tmp rfl _ _ _, rfl, HR.out, HB.out, HK.out⟩

set_option maxRecDepth 100000 in
theorem rdata_ok {w : World} {base B : Nat} {l : List Int} {a : Int} (h : RdAt w base B l a (.pointer none)) (ha : 0 ≤ a) (hl : a + 2 ≤ l.length) (ys zs : List Int) (hys : ys = (l.drop a.toNat).take 2)
    (n : Int) (hn : joinG ys = n) (hn0 : 0 ≤ n) (hl2 : a + 2 + n ≤ l.length) (hzs : zs = (l.drop (a + 2).toNat).take n.toNat) (hzl : zs.length ≤ 1099511627776) :
    Calls Tryd.prog 24 #[.pointer (some ⟨B, 0, none⟩)] w fun e w' => ∃ v, e = .returned v ∧ (Kd.int .u8).R 5 w' base (fun _ => True) v zs ∧ RdAt w' base B l (a + 2 + n) (.pointer none) ∧ Below base w w' := by
  obtain ⟨A, cc, hcc, x0, x1, x2, xf, hC⟩ := h.cells
  clear hC
  have HH := Aside0.mk h
  have HY := Aside0.mk hys
  have HZ := Aside0.mk hzs
  have HL := Aside0.mk hl
  have HL2 := Aside0.mk hl2
  have HN := Aside0.mk hn
  clear h hys hzs hl hl2 hn
  go_enter_defers Tryd.func24, Tryd.ntmps24
  go_wp2_with (first
    | (go_at_call 33; refine (number_ok HH.out ha (by decide) HL.out ys HY.out).mono ?_; rintro e w2 ⟨rfl, hR, hB, _⟩; have HR := Aside0.mk hR; have HB := Aside0.mk hB; clear hR hB; rw [HN.out])
    | (go_at_call 35; refine (take_ok HR.out (by omega) hn0 HL2.out zs HZ.out).mono ?_; rintro e w3 ⟨A3, c3, rfl, hc3, hC3, hR3, hB3, _⟩; have HC3 := Aside0.mk hC3; have HR3 := Aside0.mk hR3; have HB3 := Aside0.mk hB3; clear hC3 hR3 hB3)
    | (go_at_call 31; refine (own_any zs _ _ _ HC3.out hzl).mono ?_; rintro e w4 ⟨v, rfl, hR, hB⟩; have HV := Aside0.mk hR; have HB4 := Aside0.mk hB; clear hR hB))
  have hge : base ≤ B := HR3.out.ge
  have hlt : B < w3.heap.size := HR3.out.lt
  refine leaves_cons (f := 32) (args := #[.pointer (some ⟨B, 0, none⟩), .int .i64 a]) (by simp) (by simp [go_sem]) ?_
  refine (note_idle B a).mono ?_
  rintro e u' w5 ⟨rfl, rfl, rfl⟩
  exact ⟨_, results_tmp rfl _ _ _, v, rfl, Kd.R_lower HV.out (by omega), HR3.out.below HB4.out, (HB.out.trans HB3.out).trans (HB4.out.mono (by omega))⟩
end Go.Proofs.YtjccmlmkcjmicaaDoor.Rdr

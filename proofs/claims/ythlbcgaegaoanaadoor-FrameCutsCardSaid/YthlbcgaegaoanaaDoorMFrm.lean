/- A row of bytes of one's own that is only read, wherever it begins; what is laid behind a full one. No statement of the program. A frame in memory: New, Put, Held, told. No statement of the program. A frame's Next. No statement of the program. -/
import Derived.Test.YthlbcgaegaoanaaDoorMRdr
import Derived.Test.YthlbcgaegaoanaaDoorMDec
namespace Go.Proofs.YthlbcgaegaoanaaDoor.Cr
open Go Go.RowKit Go.Proofs.YthlbcgaegaoanaaDoorW.PrintWords Go.Proofs.YthlbcgaegaoanaaDoorW.PrintLast Go.Proofs.YthlbcgaegaoanaaDoorW.PrintMore Go.Proofs.YthlbcgaegaoanaaDoor.Kinds Go.Proofs.YthlbcgaegaoanaaDoor.Rdr
set_option linter.unusedVariables false
set_option linter.unusedSimpArgs false
def bOk (w : World) (base : Nat) : Nat → Prop := fun k => base ≤ k ∧ ∃ cells, w.heap[k]? = some (.cells cells 5 (0, 0))
def BR (w : World) (base : Nat) (v : Value) (xs : List Int) : Prop := Kd.V (Kd.int .u8) 5 w base (bOk w base) v xs
section
variable {w w1 : World} {base : Nat} {v : Value} {xs : List Int}
theorem BR.fr (h : BR w base v xs) {ok : Nat → Prop} (hf : Fr ok w w1) (hok : ∀ k, k < w.heap.size → ok k → ∃ cells t, w.heap[k]? = some (.cells cells t (0, 0)) ∧ t ≠ 5) : BR w1 base v xs := by
  have hne : ∀ k, bOk w base k → k < w.heap.size → w1.heap[k]? = w.heap[k]? := fun k hk hlt => hf.block k hlt (fun e => by
    obtain ⟨_, cells, hc⟩ := hk
    obtain ⟨cells2, t, hc2, ht⟩ := hok k hlt e
    rw [hc] at hc2; injection hc2 with hc2; injection hc2 with _ hc2; exact ht hc2.symm)
  exact Kd.V_mono (Kd.V_step (Kd.V_bound h) (fun k hk hlt => hne k hk.1 hlt)) (fun k hk => ⟨hk.1.1, by
    obtain ⟨_, cells, hc⟩ := hk.1
    exact ⟨cells, (hne k hk.1 hk.2).trans hc⟩⟩)
theorem BR.below (h : BR w base v xs) (hb : Below w.heap.size w w1) : BR w1 base v xs := h.fr (Fr.of_below (fun _ => False) hb) (fun _ _ e => e.elim)
theorem BR.lower {base' : Nat} (h : BR w base v xs) (hb : base' ≤ base) : BR w base' v xs := Kd.V_lower (base := base) (Kd.V_mono h (fun k hk => ⟨Nat.le_trans hb hk.1, hk.2⟩)) hb
theorem BR.reads (h : BR w base v xs) : ∃ A c, v = .slice A xs.length c ∧ xs.length ≤ c ∧ (Kd.int .u8).C w A xs.length xs := by
  obtain ⟨A, c, rfl⟩ := Kd.V_slice h
  have := Kd.V_reads' h
  exact ⟨A, c, rfl, this.2.1, this.2.2⟩
theorem BR.of_R (h : (Kd.int .u8).R 5 w base (fun _ => True) v xs) : BR w base v xs :=
  Kd.V_mono (Kd.R_V (base' := base) (Kd.R_bound h)) (fun k hk => ⟨hk.2.1, by
    obtain ⟨_, _, _, q, hq, hc⟩ := hk
    have : q = 5 := by simpa [Kd.int, Kd.scalar] using hq
    rw [this] at hc; exact hc⟩)
theorem BR.nil (w : World) (base : Nat) : BR w base (.slice none 0 0) [] := Kd.V_nil _ _ _ _ _
theorem BR.mid {A : Option Addr} {n c : Nat} (h : BR w base (.slice A n c) xs) {lo hi c2 : Nat} (h1 : lo ≤ hi) (h2 : hi ≤ xs.length) (hc : hi ≤ c2) : BR w base (.slice (if c = lo then A else A.map (·.add lo)) (hi - lo) (c2 - lo)) ((xs.take hi).drop lo) := by
  have hv := Kd.V_at h
  have hl : xs.length ≤ c := by have := hv.2.1; omega
  have hm := Kd.F_mid (c := c) (d := Kd.int .u8) hv.2.2 h1 h2 hl
  have e : ((xs.take hi).drop lo).length = hi - lo := by rw [List.length_drop, List.length_take]; omega
  have e2 : ((if c = lo then A else A.map (·.add (lo * (Kd.int .u8).sz))) : Option Addr) = (if c = lo then A else A.map (·.add lo)) := by rw [show (Kd.int .u8).sz = 1 from rfl, Nat.mul_one]
  rw [e2] at hm
  refine ⟨_, c2 - lo, ?_, ?_, hm⟩
  · rw [e]
  · rw [e]; omega
theorem BR.cut3 {A : Option Addr} {c : Nat} (h : BR w base (.slice A xs.length c) xs) {k : Nat} (hk : k ≤ xs.length) : BR w base (.slice (if xs.length = k then A else A.map (·.add k)) (xs.length - k) (xs.length - k)) (xs.drop k) := by
  have hm := Kd.F_cut (c := xs.length) (d := Kd.int .u8) (Kd.V_at h).2.2 hk (Nat.le_refl _)
  have e2 : ((if xs.length = k then A else A.map (·.add (k * (Kd.int .u8).sz))) : Option Addr) = (if xs.length = k then A else A.map (·.add k)) := by rw [show (Kd.int .u8).sz = 1 from rfl, Nat.mul_one]
  rw [e2] at hm
  have := Kd.V_mk (e := 5) (base := base) (Nat.le_refl _) hm
  rw [List.length_drop] at this
  exact this
end
section
variable {ops : Array Oper} {rest : List Oper} {o : Oper} {a : Act} {Q : Exit → Act → World → Prop}
set_option maxRecDepth 100000 in
theorem br_run {W : World} (base : Nat) (ty : TypeId) (A0 : Option Addr) (xs ys : List Int) (A : Option Addr) (m c : Nat)
    (HO : BR W base (.slice A0 xs.length xs.length) xs) (HR : (Kd.int .u8).C W A m ys) (hbase : base ≤ W.heap.size) (hl : xs.length + m ≤ 140737488355328) :
    ∃ v1 w1, (Builtin.append_ #[22, 22] ty #[.slice A0 xs.length xs.length, .slice A m c]).run Tryd.prog W = .ok v1 w1 ∧ BR w1 base v1 (xs ++ ys) ∧ Below W.heap.size W w1 := by
  obtain ⟨i0, hi, hzz⟩ := Option.map_eq_some_iff.1 infoU8
  simp only [Prod.mk.injEq] at hzz
  obtain ⟨hz0, hz1, hz2⟩ := hzz
  have ht : (Tryd.prog).underlying 22 = some (.slice 5) := Tryd.underlying22
  have HRI : ReadsInt W .u8 A m ys := Kd.reads_of_C (d := (0 : Int)) HR
  have hm : ys.length = m := HRI.1
  rcases Nat.eq_zero_or_pos m with h0 | hp
  · subst h0
    obtain rfl : ys = [] := List.eq_nil_of_length_eq_zero hm
    refine ⟨.slice A0 xs.length xs.length, W, ?_, by simpa using HO, Below.refl _ _⟩
    cases A0 with
    | none =>
      have : xs.length = 0 := by
        rcases Nat.eq_zero_or_pos xs.length with h | h
        · exact h
        · obtain ⟨ad, he, _⟩ := ((Kd.V_reads' HO).2.2).2.2 h; cases he
      rw [this]
      cases A <;> simp [Builtin.append_, run_underlying ht, sizeOf, typeInfo, hi, Builtin.lenOf, Builtin.firstCells, storeCells, loadCells, loadCellsFrom, Result.andThen]
    | some b => cases A <;> simp [Builtin.append_, run_underlying ht, sizeOf, typeInfo, hi, Builtin.lenOf, Builtin.firstCells, storeCells, loadCells, loadCellsFrom, Result.andThen]
  · obtain ⟨ad, rfl, hc⟩ := HRI.2.2 hp
    have hcells : ∀ j u, (nums .u8 ys)[j]? = some u → W.cell? (ad.add j) = some u := by
      intro j u hu
      have hj : j < ys.length := by
        rcases Nat.lt_or_ge j ys.length with h | h
        · exact h
        · simp [nums, List.getElem?_eq_none h] at hu
      have := hc j (by omega)
      simp [nums, List.getElem?_eq_getElem hj] at hu
      subst hu
      rw [this]
      simp [List.getD_eq_getElem?_getD, List.getElem?_eq_getElem hj]
    have hone : ∀ u ∈ nums .u8 ys, u.oneCell' = true := by intro u hu; simp only [nums, List.mem_map] at hu; obtain ⟨q, _, rfl⟩ := hu; rfl
    cases A0 with
    | none =>
      have h0 : xs.length = 0 := by
        rcases Nat.eq_zero_or_pos xs.length with h | h
        · exact h
        · obtain ⟨ad, he, _⟩ := ((Kd.V_reads' HO).2.2).2.2 h; cases he
      obtain rfl : xs = [] := List.eq_nil_of_length_eq_zero h0
      obtain ⟨v1, w1, hr, h2, h3, _, h5⟩ := run_append_own_at (P := Tryd.prog) W W.heap.size 22 ty 5 i0 (.int .u8 0) 1 1 ht hi hz0 hz1 hz2 rfl (by omega) (.slice none 0 0) 0 [] (own_nil _ _ _ _) ad m c (nums .u8 ys) (by simp [nums, hm]) hcells hone (by simp only [maxLen]; omega) (by simpa using hl) (Nat.le_refl _)
      refine ⟨v1, w1, hr, ?_, ?_⟩
      · refine BR.lower (base := W.heap.size) (BR.of_R (Kd.R_of_own (enc := Value.int .u8) (h1 := fun _ => rfl) ?_ (fun _ _ => trivial))) hbase
        have e : (0 + m) = ([] ++ ys : List Int).length := by simp [hm]
        rw [e] at h2
        simpa [encs, nums] using h2
      · exact ⟨h3.os, h3.tape, h3.output, h3.size, fun k hk => h3.block k hk (by simp [Value.ownBlock])⟩
    | some b =>
      have hx0 : ∀ j u, (nums .u8 xs)[j]? = some u → W.cell? (b.add j) = some u := by
        intro j u hu
        have hj : j < xs.length := by
          rcases Nat.lt_or_ge j xs.length with h | h
          · exact h
          · simp [nums, List.getElem?_eq_none h] at hu
        have hri : ReadsInt W .u8 (some b) xs.length xs := Kd.reads_of_C (d := (0 : Int)) (Kd.V_reads' HO).2.2
        obtain ⟨b', he, hcc⟩ := hri.2.2 (by omega)
        obtain rfl := Option.some.inj he
        have := hcc j (by omega)
        simp [nums, List.getElem?_eq_getElem hj] at hu
        subst hu
        rw [this]
        simp [List.getD_eq_getElem?_getD, List.getElem?_eq_getElem hj]
      obtain ⟨v1, w1, hr, h2, h3⟩ := run_append_arg_grows (P := Tryd.prog) (w := W) 22 ty 5 i0 (.int .u8 0) 1 1 ht hi hz0 hz1 hz2 rfl (by omega) b xs.length xs.length (nums .u8 xs) (by simp [nums]) hx0 ad m c (nums .u8 ys) (by simp [nums, hm]) hcells (by omega) (by simp only [maxLen]; omega) (by simpa using hl)
      refine ⟨v1, w1, hr, ?_, ?_⟩
      · refine BR.lower (base := W.heap.size) (BR.of_R (Kd.R_of_own (enc := Value.int .u8) (h1 := fun _ => rfl) ?_ (fun _ _ => trivial))) hbase
        have e : xs.length + m = (xs ++ ys).length := by simp [hm]
        rw [e] at h2
        simpa [encs, nums] using h2
      · exact ⟨h3.os, h3.tape, h3.output, h3.size, fun k hk => h3.block k hk (by simp)⟩
theorem br_append_step {Kc : Act → World → Prop} {W : World} (base : Nat) (hw : Region.wanted o (yielded ops a.tmps) = true) (s x : Operand)
    (ho : o.op = .call { callee := .builtin .append, args := #[s, x], argTypes := #[22, 22] })
    (A0 : Option Addr) (xs ys : List Int) (A : Option Addr) (m c : Nat) (hs : a.eval s = .slice A0 xs.length xs.length) (hx : a.eval x = .slice A m c)
    (HO : BR W base (.slice A0 xs.length xs.length) xs) (HR : (Kd.int .u8).C W A m ys) (hbase : base ≤ W.heap.size) (hl : xs.length + m ≤ 140737488355328)
    (h : ∀ v1 w1, BR w1 base v1 (xs ++ ys) → Below W.heap.size W w1 → Kc (a.put o.dst v1) w1) :
    if Region.wanted o (yielded ops a.tmps) = true then Oper.wp Tryd.prog o a W Kc Q else Kc (a.put o.dst undef) W := by
  obtain ⟨v1, w1, hr, hown, hb⟩ := br_run base o.type A0 xs ys A m c HO HR hbase hl
  rw [if_pos hw]
  unfold Oper.wp execOp
  simp only [ho, resolve, invoke, builtin, Sem.run_bind, Sem.run_pure, Result.andThen_ok, List.map_toArray, List.map_cons, List.map_nil, hs, hx, hr]
  exact h v1 w1 hown hb
end
end Go.Proofs.YthlbcgaegaoanaaDoor.Cr

namespace Go.Proofs.YthlbcgaegaoanaaDoor.Cr
open Go Go.RowKit Go.Proofs.YthlbcgaegaoanaaDoorW.PrintWords Go.Proofs.YthlbcgaegaoanaaDoorW.PrintLast Go.Proofs.YthlbcgaegaoanaaDoorW.PrintMore Go.Proofs.YthlbcgaegaoanaaDoor.Kinds Go.Proofs.YthlbcgaegaoanaaDoor.Utf Go.Proofs.YthlbcgaegaoanaaDoor.Chk Go.Proofs.YthlbcgaegaoanaaDoor.Rdr
set_option linter.unusedVariables false
set_option linter.unusedSimpArgs false
structure FrIs (w : World) (base F : Nat) (most : Int) (s : FrS) : Prop where
  ex : ∃ v ev, w.heap[F]? = some (.cells #[.int .i64 most, v, .int .i64 s.spent, ev] 52 (0, 0)) ∧ BR w base v s.b ∧ FV w base ev s.err
  ge : base ≤ F
  ok : s.Ok
section
variable {w w1 : World} {base F : Nat} {most : Int} {s : FrS}
theorem FrIs.lt (h : FrIs w base F most s) : F < w.heap.size := by
  obtain ⟨v, ev, h1, _⟩ := h.ex
  exact blk_lt h1
theorem FrIs.fr {ok : Nat → Prop} (h : FrIs w base F most s) (hf : Fr ok w w1) (hok : ∀ k, k < w.heap.size → ok k → ∃ cells t, w.heap[k]? = some (.cells cells t (0, 0)) ∧ t ≠ 5 ∧ t ≠ 52 ∧ t ≠ 61) : FrIs w1 base F most s := by
  obtain ⟨v, ev, h1, h2, h3⟩ := h.ex
  refine ⟨⟨v, ev, (hf.block F (blk_lt h1) fun e => ?_).trans h1, h2.fr hf (fun k hk e => ?_), h3.fr hf (fun k hk e => ?_)⟩, h.ge, h.ok⟩
  · obtain ⟨cells, t, hc, _, ht, _⟩ := hok F (blk_lt h1) e
    rw [h1] at hc; injection hc with hc; injection hc with _ hc; exact ht hc.symm
  · obtain ⟨cells, t, hc, ht, _⟩ := hok k hk e; exact ⟨cells, t, hc, ht⟩
  · obtain ⟨cells, t, hc, _, _, ht⟩ := hok k hk e; exact ⟨cells, t, hc, ht⟩
theorem FrIs.below (h : FrIs w base F most s) (hb : Below w.heap.size w w1) : FrIs w1 base F most s := h.fr (Fr.of_below (fun _ => False) hb) (fun _ _ e => e.elim)
theorem FrIs.lower {base' : Nat} (h : FrIs w base F most s) (hb : base' ≤ base) : FrIs w base' F most s := by
  obtain ⟨v, ev, h1, h2, h3⟩ := h.ex
  exact ⟨⟨v, ev, h1, h2.lower hb, h3.lower hb⟩, Nat.le_trans hb h.ge, h.ok⟩
theorem FrIs.self (h : FrIs w base F most s) : ∃ cells, w.heap[F]? = some (.cells cells 52 (0, 0)) := by
  obtain ⟨v, ev, h1, _⟩ := h.ex
  exact ⟨_, h1⟩
theorem BR.setF {v : Value} {xs : List Int} {cells : Array Value} (hF : w.heap[F]? = some (.cells cells 52 (0, 0))) (h : BR w base v xs) (j : Nat) (u : Value) : BR (w.setCell ⟨F, j, none⟩ u) base v xs :=
  h.fr ((Fr.refl (fun k => k = F) w).setCell (p := ⟨F, j, none⟩) (fun _ => rfl) u) (fun k hk e => ⟨cells, 52, e ▸ hF, by decide⟩)
theorem FV.setF {ev : Value} {f : Option (Int × Int)} {cells : Array Value} (hF : w.heap[F]? = some (.cells cells 52 (0, 0))) (h : FV w base ev f) (j : Nat) (u : Value) : FV (w.setCell ⟨F, j, none⟩ u) base ev f :=
  h.fr ((Fr.refl (fun k => k = F) w).setCell (p := ⟨F, j, none⟩) (fun _ => rfl) u) (fun k hk e => ⟨cells, 52, e ▸ hF, by decide⟩)
theorem frmNew_any (most : Int) (w : World) :
    Calls Tryd.prog 5 #[.int .i64 most] w fun e w' => ∃ F, e = .returned (.pointer (some ⟨F, 0, none⟩)) ∧ FrIs w' w.heap.size F most FrS.new ∧ Below w.heap.size w w' := by
  go_enter Tryd.func5, Tryd.ntmps5
  go_wp2
  go_ret
  exact ⟨_, rfl, ⟨⟨_, _, heap_alloc_new _ _, BR.nil _ _, rfl⟩, Nat.le_refl _, FrS.Ok.new⟩, (Below.refl _ _).alloc (Nat.le_refl _) _⟩
theorem held_any (h : FrIs w base F most s) :
    Calls Tryd.prog 8 #[.pointer (some ⟨F, 0, none⟩)] w fun e w' => e = .returned (.int .i64 s.b.length) ∧ w = w' := by
  obtain ⟨v, ev, h1, h2, h3⟩ := h.ex
  obtain ⟨A, c, rfl, hc, hC⟩ := h2.reads
  have x1 : w.cell? ⟨F, 1, none⟩ = some (.slice A s.b.length c) := blk_cell h1 1
  clear h h1 h2 h3 hC
  go_enter Tryd.func8, Tryd.ntmps8
  go_wp2
  go_ret
  exact ⟨rfl, rfl⟩
theorem told_any (h : FrIs w base F most s) (q : Int × Int) (hq : s.err = some q) :
    Calls Tryd.prog 13 #[.pointer (some ⟨F, 0, none⟩)] w fun e w' => e = .returned (.iface 50 (.pointer (some ⟨w.heap.size, 0, none⟩))) ∧ w' = w.alloc (.cells #[.int .i64 q.1, .int .i64 q.2] 61) := by
  obtain ⟨v, ev, h1, h2, h3⟩ := h.ex
  rw [hq] at h3
  obtain ⟨G, rfl, hG, hb⟩ := h3
  have x3 : w.cell? ⟨F, 3, none⟩ = some (.pointer (some ⟨G, 0, none⟩)) := blk_cell h1 3
  have y0 : w.cell? ⟨G, 0, none⟩ = some (.int .i64 q.1) := blk_cell hG 0
  have y1 : w.cell? ⟨G, 1, none⟩ = some (.int .i64 q.2) := blk_cell hG 1
  clear h h1 h2 hG
  go_enter Tryd.func13, Tryd.ntmps13
  go_wp2
  go_ret
  exact ⟨rfl, rfl⟩
set_option maxRecDepth 100000 in
theorem put_any (h : FrIs w base F most s) (l : List Int) (A : Option Addr) (c : Nat) (hr : (Kd.int .u8).C w A l.length l) (hb : ∀ x ∈ l, 0 ≤ x ∧ x ≤ 255) (hlen : s.b.length + l.length ≤ 1099511627776) :
    Calls Tryd.prog 6 #[.pointer (some ⟨F, 0, none⟩), .slice A l.length c] w fun e w' => e = .returned (.tuple #[]) ∧ FrIs w' base F most (s.put l) ∧ Fr (fun k => k = F) w w' := by
  obtain ⟨v, ev, h1, h2, h3⟩ := h.ex
  obtain ⟨A0, c0, rfl, hc0, hC0⟩ := h2.reads
  have x1 : w.cell? ⟨F, 1, none⟩ = some (.slice A0 s.b.length c0) := blk_cell h1 1
  cases he : s.err with
  | some q =>
    rw [he] at h3
    obtain ⟨G, rfl, hG, hbG⟩ := h3
    have x3 : w.cell? ⟨F, 3, none⟩ = some (.pointer (some ⟨G, 0, none⟩)) := blk_cell h1 3
    have HE := Aside0.mk (show s.put l = s by unfold FrS.put; rw [he]; rfl)
    have HH := Aside0.mk h
    clear h h1 h2 hG hr hb hC0
    go_enter Tryd.func6, Tryd.ntmps6
    go_wp2
    go_end0
    exact ⟨rfl, by rw [HE.out]; exact HH.out, Fr.refl _ _⟩
  | none =>
    rw [he] at h3
    have hev : ev = .pointer none := h3
    subst hev
    have x3 : w.cell? ⟨F, 3, none⟩ = some (.pointer none) := blk_cell h1 3
    have HE := Aside0.mk (show s.put l = ⟨s.b ++ l, s.spent, none⟩ by unfold FrS.put; rw [he]; rfl)
    have HH := Aside0.mk h
    have HFB := Aside0.mk h1
    have HFL := Aside0.mk (blk_lt h1)
    have HBYTE := Aside0.mk hb
    have hcap : (s.b.length : Int) ≤ c0 := by omega
    have HBR := Aside0.mk (show BR w.drew base (.slice A0 s.b.length s.b.length) s.b from Kd.V_mk (Nat.le_refl _) (Kd.V_at (h2.below (below_drew1 (Below.refl _ _)))).2.2)
    have HRL := Aside0.mk (Kd.C_drew hr)
    have HBS := Aside0.mk (show base ≤ w.drew.heap.size from by have := h.ge; have := blk_lt h1; show base ≤ w.heap.size; omega)
    have HLN := Aside0.mk (show s.b.length + l.length ≤ 140737488355328 by omega)
    clear h h1 h2 hr hb hC0 he h3
    go_enter Tryd.func6, Tryd.ntmps6
    go_upto_region 1 with fail
    refine start_ (n := 21) (S := fun w' => w'.cell? ⟨F, 1, none⟩ = some (.slice A0 s.b.length c0)) (ds := [20]) #[false, false, false, false, false, false, false, false, false, false, false, false, false, false, false, false, false, false, false, false, false] (by kernel_rfl) rfl rfl (x1) (fun hHeld => ?_)
    refine pure_ (i := 0) (N := some 9) (v := ?_) (a' := ?_) #[true, false, false, false, false, false, false, false, false, false, false, false, false, false, false, false, false, false, false, false, false] rfl rfl (by kernel_rfl) (fun _ _ _ h => h) (Or.inl ⟨by rfl, ?_⟩) ?_ ?_
    rotate_left
    · intro w'
      go_simp
      with_reducible rfl
    rotate_left
    · simp only [Act.put, List.setIfInBounds_toArray, List.set_cons_zero, List.set_cons_succ, i64_w, i32_w]
      rfl
    refine pure_ (i := 1) (N := some 10) (v := ?_) (a' := ?_) #[true, true, false, false, false, false, false, false, false, false, false, false, false, false, false, false, false, false, false, false, false] rfl rfl (by kernel_rfl) (fun _ _ _ h => h) (Or.inl ⟨by rfl, ?_⟩) ?_ ?_
    rotate_left
    · intro w'
      go_simp
      with_reducible rfl
    rotate_left
    · simp only [Act.put, List.setIfInBounds_toArray, List.set_cons_zero, List.set_cons_succ, i64_w, i32_w]
      rfl
    refine pure_ (i := 2) (N := some 11) (v := ?_) (a' := ?_) #[true, true, true, false, false, false, false, false, false, false, false, false, false, false, false, false, false, false, false, false, false] rfl rfl (by kernel_rfl) (fun _ _ _ h => h) (Or.inl ⟨by rfl, ?_⟩) ?_ ?_
    rotate_left
    · intro w'
      go_simp
      with_reducible rfl
    rotate_left
    · simp only [Act.put, List.setIfInBounds_toArray, List.set_cons_zero, List.set_cons_succ, i64_w, i32_w]
      rfl
    refine pure_ (i := 3) (N := some 12) (v := ?_) (a' := ?_) #[true, true, true, true, false, false, false, false, false, false, false, false, false, false, false, false, false, false, false, false, false] rfl rfl (by kernel_rfl) (fun _ _ _ h => h) (Or.inl ⟨by rfl, ?_⟩) ?_ ?_
    rotate_left
    · intro w'
      go_simp
      with_reducible rfl
    rotate_left
    · simp only [Act.put, List.setIfInBounds_toArray, List.set_cons_zero, List.set_cons_succ, i64_w, i32_w]
      rfl
    refine pure_ (i := 5) (N := some 14) (v := ?_) (a' := ?_) #[true, true, true, true, false, true, false, false, false, false, false, false, false, false, false, false, false, false, false, false, false] rfl rfl (by kernel_rfl) (fun _ _ _ h => h) (Or.inl ⟨by rfl, ?_⟩) ?_ ?_
    rotate_left
    · intro w'
      go_simp
      with_reducible rfl
    rotate_left
    · simp only [Act.put, List.setIfInBounds_toArray, List.set_cons_zero, List.set_cons_succ, i64_w, i32_w]
      rfl
    refine pure_ (i := 6) (N := some 15) (v := ?_) (a' := ?_) #[true, true, true, true, false, true, true, false, false, false, false, false, false, false, false, false, false, false, false, false, false] rfl rfl (by kernel_rfl) (fun _ _ _ h => h) (Or.inl ⟨by rfl, ?_⟩) ?_ ?_
    rotate_left
    · intro w'
      go_simp
      with_reducible rfl
    rotate_left
    · simp only [Act.put, List.setIfInBounds_toArray, List.set_cons_zero, List.set_cons_succ, i64_w, i32_w]
      rfl
    refine pure_ (i := 7) (N := some 16) (v := ?_) (a' := ?_) #[true, true, true, true, false, true, true, true, false, false, false, false, false, false, false, false, false, false, false, false, false] rfl rfl (by kernel_rfl) (fun _ _ _ h => h) (Or.inl ⟨by rfl, ?_⟩) ?_ ?_
    rotate_left
    · intro w'
      go_simp
      with_reducible rfl
    rotate_left
    · simp only [Act.put, List.setIfInBounds_toArray, List.set_cons_zero, List.set_cons_succ, i64_w, i32_w]
      rfl
    refine pure_ (i := 10) (N := some 19) (v := ?_) (a' := ?_) #[true, true, true, true, false, true, true, true, false, false, true, false, false, false, false, false, false, false, false, false, false] rfl rfl (by kernel_rfl) (fun _ _ _ h => h) (Or.inl ⟨by rfl, ?_⟩) ?_ ?_
    rotate_left
    · intro w'
      go_simp
      with_reducible rfl
    rotate_left
    · simp only [Act.put, List.setIfInBounds_toArray, List.set_cons_zero, List.set_cons_succ, i64_w, i32_w]
      rfl
    refine pure_ (i := 11) (N := some 20) (v := ?_) (a' := ?_) #[true, true, true, true, false, true, true, true, false, false, true, true, false, false, false, false, false, false, false, false, false] rfl rfl (by kernel_rfl) (fun _ _ _ h => h) (Or.inl ⟨by rfl, ?_⟩) ?_ ?_
    rotate_left
    · intro w'
      go_simp
      with_reducible rfl
    rotate_left
    · simp only [Act.put, List.setIfInBounds_toArray, List.set_cons_zero, List.set_cons_succ, i64_w, i32_w]
      rfl
    refine pure_ (i := 12) (N := some 21) (v := ?_) (a' := ?_) #[true, true, true, true, false, true, true, true, false, false, true, true, true, false, false, false, false, false, false, false, false] rfl rfl (by kernel_rfl) (fun _ _ _ h => h) (Or.inl ⟨by rfl, ?_⟩) ?_ ?_
    rotate_left
    · intro w'
      go_simp
      with_reducible rfl
    rotate_left
    · simp only [Act.put, List.setIfInBounds_toArray, List.set_cons_zero, List.set_cons_succ, i64_w, i32_w]
      rfl
    refine pure_ (i := 16) (N := some 25) (v := ?_) (a' := ?_) #[true, true, true, true, false, true, true, true, false, false, true, true, true, false, false, false, true, false, false, false, false] rfl rfl (by kernel_rfl) (fun _ _ _ h => h) (Or.inl ⟨by rfl, ?_⟩) ?_ ?_
    rotate_left
    · intro w'
      go_simp
      with_reducible rfl
    rotate_left
    · simp only [Act.put, List.setIfInBounds_toArray, List.set_cons_zero, List.set_cons_succ, i64_w, i32_w]
      rfl
    refine take_ (i := 4) (N := some 13) (v := ?_) (a' := ?_) #[true, true, true, true, true, true, true, true, false, false, true, true, true, false, false, false, true, false, false, false, false] rfl rfl (by kernel_rfl) (fun _ _ _ h => h) (Or.inl ⟨by rfl, ?_⟩) hHeld ?_ ?_
    rotate_left
    · intro w' s0
      go_simp
      with_reducible rfl
    rotate_left
    · simp only [Act.put, List.setIfInBounds_toArray, List.set_cons_zero, List.set_cons_succ, i64_w, i32_w]
      rfl
    refine take_ (i := 8) (N := some 17) (v := ?_) (a' := ?_) #[true, true, true, true, true, true, true, true, true, false, true, true, true, false, false, false, true, false, false, false, false] rfl rfl (by kernel_rfl) (fun _ _ _ h => h) (Or.inl ⟨by rfl, ?_⟩) hHeld ?_ ?_
    rotate_left
    · intro w' s0
      go_simp
      with_reducible rfl
    rotate_left
    · simp only [Act.put, List.setIfInBounds_toArray, List.set_cons_zero, List.set_cons_succ, i64_w, i32_w]
      rfl
    refine pure_ (i := 9) (N := some 18) (v := ?_) (a' := ?_) #[true, true, true, true, true, true, true, true, true, true, true, true, true, false, false, false, true, false, false, false, false] rfl rfl (by kernel_rfl) (fun _ _ _ h => h) (Or.inl ⟨by rfl, ?_⟩) ?_ ?_
    rotate_left
    · intro w'
      go_simp
      with_reducible rfl
    rotate_left
    · simp only [Act.put, List.setIfInBounds_toArray, List.set_cons_zero, List.set_cons_succ, i64_w, i32_w]
      rfl
    refine take_ (i := 13) (N := some 22) (v := ?_) (a' := ?_) #[true, true, true, true, true, true, true, true, true, true, true, true, true, true, false, false, true, false, false, false, false] rfl rfl (by kernel_rfl) (fun _ _ _ h => h) (Or.inl ⟨by rfl, ?_⟩) hHeld ?_ ?_
    rotate_left
    · intro w' s0
      go_simp
      with_reducible rfl
    rotate_left
    · simp only [Act.put, List.setIfInBounds_toArray, List.set_cons_zero, List.set_cons_succ, i64_w, i32_w]
      rfl
    refine pure_ (i := 14) (N := some 23) (v := ?_) (a' := ?_) #[true, true, true, true, true, true, true, true, true, true, true, true, true, true, true, false, true, false, false, false, false] rfl rfl (by kernel_rfl) (fun _ _ _ h => h) (Or.inl ⟨by rfl, ?_⟩) ?_ ?_
    rotate_left
    · intro w'
      go_simp
      with_reducible rfl
    rotate_left
    · simp only [Act.put, List.setIfInBounds_toArray, List.set_cons_zero, List.set_cons_succ, i64_w, i32_w]
      rfl
    refine pure_ (i := 15) (N := some 24) (v := ?_) (a' := ?_) #[true, true, true, true, true, true, true, true, true, true, true, true, true, true, true, true, true, false, false, false, false] rfl rfl (by kernel_rfl) (fun _ _ _ h => h) (Or.inl ⟨by rfl, ?_⟩) ?_ ?_
    rotate_left
    · intro w'
      go_simp
      with_reducible rfl
    rotate_left
    · simp only [Act.put, List.setIfInBounds_toArray, List.set_cons_zero, List.set_cons_succ, i64_w, i32_w]
      rfl
    refine one_ (i := 17) (N := some 26) #[true, true, true, true, true, true, true, true, true, true, true, true, true, true, true, true, true, true, false, false, false] rfl rfl (by kernel_rfl) (by decide) (fun K hK => ?_)
    refine br_append_step base (by rfl) (.tmp 24) (.tmp 25) (by rfl) A0 s.b l A l.length c (by rfl) (by rfl) HBR.out HRL.out HBS.out HLN.out ?_
    intro v1 w3 hv hb3
    obtain ⟨A1, c1, rfl, _, _⟩ := BR.reads hv
    have hz3 : w3.frozen? ⟨F, 1, none⟩ = false := blk_frozen ((hb3.block _ HFL.out).trans HFB.out) 1
    have HV := Aside0.mk hv
    have HB3 := Aside0.mk hb3
    clear hv hb3
    refine hK.out _ _ ((HB3.out.cell (p := ⟨F, 1, none⟩) HFL.out).trans hHeld) (fun hHeld => ?_)
    clear hK K
    refine norm_ (a' := ?_) ?_ ?_
    rotate_left
    · show Act.put _ (some 26) _ = _
      simp only [Act.put, List.setIfInBounds_toArray, List.set_cons_zero, List.set_cons_succ, i64_w, i32_w]
      rfl
    refine pure_ (i := 18) (N := some 27) (v := ?_) (a' := ?_) #[true, true, true, true, true, true, true, true, true, true, true, true, true, true, true, true, true, true, true, false, false] rfl rfl (by kernel_rfl) (fun _ _ _ h => h) (Or.inl ⟨by rfl, ?_⟩) ?_ ?_
    rotate_left
    · intro w'
      go_simp
      with_reducible rfl
    rotate_left
    · simp only [Act.put, List.setIfInBounds_toArray, List.set_cons_zero, List.set_cons_succ, i64_w, i32_w]
      rfl
    refine pure_ (i := 19) (N := some 28) (v := ?_) (a' := ?_) #[true, true, true, true, true, true, true, true, true, true, true, true, true, true, true, true, true, true, true, true, false] rfl rfl (by kernel_rfl) (fun _ _ _ h => h) (Or.inl ⟨by rfl, ?_⟩) ?_ ?_
    rotate_left
    · intro w'
      go_simp
      with_reducible rfl
    rotate_left
    · simp only [Act.put, List.setIfInBounds_toArray, List.set_cons_zero, List.set_cons_succ, i64_w, i32_w]
      rfl
    refine last_ (i := 20) (N := none) #[true, true, true, true, true, true, true, true, true, true, true, true, true, true, true, true, true, true, true, true, true] rfl rfl (by kernel_rfl) (by decide) (fun K hK => ?_)
    refine skip_ (w1 := ?_) (by rfl) rfl ?_ ?_
    rotate_left
    · go_simp
      rfl
    refine hK.out _ _ ?_
    clear hK K
    refine done_ (by kernel_rfl) ?_
    go_wp2
    go_end0
    have hF3 := (HB3.out.block _ HFL.out).trans HFB.out
    have hz : Fr (fun k => k = F) w w3 := ((Fr.refl (fun k => k = F) w).drew).trans (Fr.of_below (fun _ => False) HB3.out) (fun _ _ e => e.elim)
    refine ⟨rfl, ?_, hz.setCell (fun _ => rfl) _⟩
    rw [HE.out]
    exact ⟨⟨_, _, blk_set hF3 1 _, by have := HV.out.setF hF3 1 (.slice A1 (s.b.length + l.length) c1); rw [List.length_append] at this; exact this, rfl⟩, HH.out.ge, ⟨HH.out.ok.byte.app HBYTE.out, by simp⟩⟩
end
end Go.Proofs.YthlbcgaegaoanaaDoor.Cr

namespace Go.Proofs.YthlbcgaegaoanaaDoor.Cr
open Go Go.RowKit Go.Proofs.YthlbcgaegaoanaaDoorW.PrintWords Go.Proofs.YthlbcgaegaoanaaDoorW.PrintLast Go.Proofs.YthlbcgaegaoanaaDoorW.PrintMore Go.Proofs.YthlbcgaegaoanaaDoor.Kinds Go.Proofs.YthlbcgaegaoanaaDoor.Utf Go.Proofs.YthlbcgaegaoanaaDoor.Chk Go.Proofs.YthlbcgaegaoanaaDoor.Rdr
set_option linter.unusedVariables false
set_option linter.unusedSimpArgs false
def NextAt (w w' : World) (base F : Nat) (most : Int) (e : Ending) (r : FA × FrS) : Prop :=
  ∃ (cs : List Value) (ev : Value), e = .returned (.tuple #[.agg cs.toArray, .bool r.1.ok, ev]) ∧ kPkt.M w' w.heap.size (fun _ => True) r.1.p cs ∧ EV w' w.heap.size ev r.1.f ∧ FrIs w' base F most r.2 ∧ Fr (fun k => k = F) w w'
structure DN (w0 : World) (r : DR) (P : Nat) (cs : List Value) (ev : Value) (wx : World) : Prop where
  m : kPkt.M wx w0.heap.size (fun _ => True) r.p cs
  ev : EV wx w0.heap.size ev r.f
  p : wx.heap[P]? = some (.cells noCells 43 (0, 0))
  bel : Below w0.heap.size w0 wx
  ge : w0.heap.size ≤ P
section
variable {w0 w4 wx : World} {r : DR} {P : Nat} {cs : List Value} {ev : Value}
theorem DN.callFirst (hM : kPkt.M w4 w0.drew.heap.size (fun _ => True) r.p cs) (hE : EV w4 w0.drew.heap.size ev r.f) (hB : Below w0.drew.heap.size w0.drew w4) : DN w0 r w4.heap.size cs ev (w4.alloc (.cells noCells 43)) :=
  ⟨Kd.M_alloc hM _, hE.fr ((Fr.refl (fun _ => False) w4).alloc _) (fun _ _ e => e.elim), heap_alloc_new _ _, ((below_drew1 (Below.refl _ _)).trans hB).alloc hB.size _, hB.size⟩
theorem DN.allocFirst (hM : kPkt.M w4 (w0.drew.alloc (.cells noCells 43)).heap.size (fun _ => True) r.p cs) (hE : EV w4 (w0.drew.alloc (.cells noCells 43)).heap.size ev r.f) (hB : Below (w0.drew.alloc (.cells noCells 43)).heap.size (w0.drew.alloc (.cells noCells 43)) w4) : DN w0 r w0.heap.size cs ev w4 := by
  have h0 : (w0.drew.alloc (.cells noCells 43)).heap[w0.heap.size]? = some (.cells noCells 43 (0, 0)) := heap_alloc_new w0.drew _
  have hs := blk_lt h0
  exact ⟨kPkt.M_lower (Nat.le_of_lt hs) hM, hE.lower (Nat.le_of_lt hs), (hB.block _ hs).trans h0, ((below_drew1 (Below.refl _ _)).alloc (Nat.le_refl _) _).trans (hB.mono (Nat.le_of_lt hs)), Nat.le_refl _⟩
theorem DN.size (h : DN w0 r P cs ev wx) : (Tryd.prog.info? 43).map (·.size) = some cs.toArray.size := by
  rw [show cs.toArray.size = 25 from by rw [List.size_toArray, kPkt.K_len (kPkt.K_of_M h.m)]; rfl]; exact pktSize
theorem DN.sz2 (h : DN w0 r P cs ev wx) : noCells.size = cs.toArray.size :=
  (show noCells.size = 25 from rfl).trans (by rw [List.size_toArray, kPkt.K_len (kPkt.K_of_M h.m)]; rfl)
theorem DN.one (h : DN w0 r P cs ev wx) : cs.toArray.all (·.oneCell') = true := by
  rw [Array.all_eq_true_iff_forall_mem]
  intro u hu
  exact kPkt.K_one (kPkt.K_of_M h.m) u (by simpa using hu)
structure DL (w0 : World) (r : DR) (P : Nat) (cs : List Value) (ev : Value) (wx : World) : Prop where
  m : kPkt.M wx w0.heap.size (fun _ => True) r.p cs
  ev : EV wx w0.heap.size ev r.f
  p : wx.heap[P]? = some (.cells cs.toArray 43 (0, 0))
  bel : Below w0.heap.size w0 wx
  ge : w0.heap.size ≤ P
theorem DN.store (h : DN w0 r P cs ev wx) : DL w0 r P cs ev (wx.setRow P cs.toArray) :=
  ⟨M_frT h.m (setRow_fr wx P _) (fun k hk e => ⟨_, _, e ▸ h.p, by decide⟩), h.ev.fr (setRow_fr wx P _) (fun k hk e => ⟨_, _, e ▸ h.p, by decide⟩), setRow_block h.p, setRow_below h.bel h.ge _, h.ge⟩
end
section
variable {w : World} {base F : Nat} {most : Int} {s : FrS}
theorem FrIs.failed {w4 : World} {v : Value} {G : Nat} {qa qc x sp : Int} (hge : base ≤ F) (hF : w4.heap[F]? = some (.cells #[.int .i64 most, v, .int .i64 sp, .pointer (some ⟨G, 0, none⟩)] 52 (0, 0))) (hG : FltAt w4 G qa qc) (hb : base ≤ G) :
    FrIs ((w4.drew.setCell ⟨G, 0, none⟩ (.int .i64 x)).setCell ⟨F, 1, none⟩ (.slice none 0 0)) base F most ⟨[], sp, some (x, qc)⟩ := by
  have hne : F ≠ G := by
    intro e; subst e
    rw [show w4.heap[F]? = _ from hG] at hF; injection hF with hF; injection hF with _ hF; exact absurd hF (by decide)
  have h1 : (w4.drew.setCell ⟨G, 0, none⟩ (.int .i64 x)).heap[F]? = some (.cells #[.int .i64 most, v, .int .i64 sp, .pointer (some ⟨G, 0, none⟩)] 52 (0, 0)) := (Below.heap_setCell w4.drew ⟨G, 0, none⟩ _ F hne).trans hF
  have h2 : (w4.drew.setCell ⟨G, 0, none⟩ (.int .i64 x)).heap[G]? = some (.cells #[.int .i64 x, .int .i64 qc] 61 (0, 0)) := blk_set (show w4.drew.heap[G]? = _ from hG) 0 _
  exact ⟨⟨_, _, blk_set h1 1 _, BR.nil _ _, ⟨G, rfl, (Below.heap_setCell _ ⟨F, 1, none⟩ _ G (Ne.symm hne)).trans h2, hb⟩⟩, hge, ⟨fun x hx => by simp at hx, by simp⟩⟩
set_option maxRecDepth 100000 in
theorem next_err (h : FrIs w base F most s) (q : Int × Int) (hq : s.err = some q) :
    Calls Tryd.prog 10 #[.pointer (some ⟨F, 0, none⟩)] w fun e w' => NextAt w w' base F most e (⟨noPkt, false, some q⟩, s) := by
  obtain ⟨X, hX⟩ : ∃ X : World, X = w.alloc (.cells noCells 43) := ⟨_, rfl⟩
  have hbx : Below w.heap.size w X := by rw [hX]; exact below_alloc (Below.refl w.heap.size w) (.cells noCells 43)
  have hh := h.below hbx
  have HT := Aside0.mk (told_any hh q hq)
  have HQ := Aside0.mk (show X.heap[w.heap.size]? = some (.cells noCells 43 (0, 0)) by rw [hX]; exact heap_alloc_new w (.cells noCells 43))
  have HX := Aside0.mk hX
  have HBX := Aside0.mk hbx
  have HH := Aside0.mk hh
  obtain ⟨v, ev, h1, h2, h3⟩ := hh.ex
  rw [hq] at h3
  obtain ⟨G, rfl, hG, hb⟩ := h3
  have x3 : X.cell? ⟨F, 3, none⟩ = some (.pointer (some ⟨G, 0, none⟩)) := blk_cell h1 3
  clear h h1 h2 hG hX hbx hh
  go_enter Tryd.func10, Tryd.ntmps10
  go_upto_region 1 with fail
  refine wp_wld (w2 := X) (by rw [HX.out]; rfl) ?_
  clear HX
  go_wp2_with (first
    | (go_at_call 13; (with_reducible refine (HT.out).mono ?_); rintro e w1 ⟨rfl, rfl⟩)
    | (refine wpList_store_row rfl 43 _ _ rfl w.heap.size _ rfl rfl 43 _ ((heap_alloc_old X _ (blk_lt HQ.out)).trans HQ.out) pktSize rfl (by simp [Value.oneCell']) ?_))
  have hq1 := (heap_alloc_old X (.cells #[.int .i64 q.1, .int .i64 q.2] 61) (blk_lt HQ.out)).trans HQ.out
  have hfr := ((Fr.refl (fun k => k = w.heap.size) X).alloc (.cells #[.int .i64 q.1, .int .i64 q.2] 61)).trans (setRow_fr (X.alloc (.cells #[.int .i64 q.1, .int .i64 q.2] 61)) w.heap.size noCells) (fun _ _ e => e)
  refine bodyPost_ret (results_dec Tryd.results10 rfl (setRow_block hq1) Tryd.underlying43 rfl pktSize) rfl ⟨noCells.toList, _, rfl, noM _ _, ⟨X.heap.size, rfl, (setRow_far (by have := blk_lt HQ.out; omega) _).trans (heap_alloc_new _ _), HBX.out.size⟩, HH.out.fr hfr (fun k hk e => ⟨_, _, e ▸ HQ.out, by decide, by decide, by decide⟩), ?_⟩
  exact (Fr.of_below (fun k => k = F) HBX.out).trans hfr (fun k hk e => by omega)
set_option maxRecDepth 100000 in
set_option maxHeartbeats 4000000 in
theorem next_dec (hg : Gl w) (h : FrIs w base F most s) (hn : s.err = none) (hlen : s.b.length ≤ 1099511627770) :
    Calls Tryd.prog 10 #[.pointer (some ⟨F, 0, none⟩)] w fun e w' => NextAt w w' base F most e (nextF s (decP s.b most)) := by
  obtain ⟨X, hX⟩ : ∃ X : World, X = w.alloc (.cells noCells 43) := ⟨_, rfl⟩
  have hbx : Below w.heap.size w X := by rw [hX]; exact below_alloc (Below.refl w.heap.size w) (.cells noCells 43)
  have hFl := h.lt
  have hh := h.below hbx
  have HQ := Aside0.mk (show X.heap[w.heap.size]? = some (.cells noCells 43 (0, 0)) by rw [hX]; exact heap_alloc_new w (.cells noCells 43))
  have HX := Aside0.mk hX
  have HBX := Aside0.mk hbx
  have HH := Aside0.mk hh
  have HG := Aside0.mk (hg.below hbx hg.sz hbx.size)
  obtain ⟨v, ev, h1, h2, h3⟩ := hh.ex
  rw [hn] at h3
  have hev : ev = .pointer none := h3
  subst hev
  obtain ⟨A0, c0, rfl, hc0, hC0⟩ := h2.reads
  have x0 : X.cell? ⟨F, 0, none⟩ = some (.int .i64 most) := blk_cell h1 0
  have x1 : X.cell? ⟨F, 1, none⟩ = some (.slice A0 s.b.length c0) := blk_cell h1 1
  have x3 : X.cell? ⟨F, 3, none⟩ = some (.pointer none) := blk_cell h1 3
  obtain ⟨r, hr⟩ : ∃ r, r = decP s.b most := ⟨_, rfl⟩
  have hw : ∀ i, 0 ≤ rd s.b i ∧ rd s.b i ≤ 255 := fun i => rd_range s.b h.ok.byte i
  have HTK := Aside0.mk (fun (e : r.n ≠ 0) => show r.f = none ∧ 2 ≤ r.n ∧ r.n ≤ s.b.length ∧ pchk r.p = 0 by rw [hr] at e ⊢; exact decP_took s.b most hw e)
  rw [← hr]
  have hfa : ∀ W : World, Below X.heap.size X W → Calls Tryd.prog 14 #[.slice A0 s.b.length c0, .int .i64 most] W fun e w' => DecAt W w' e r := fun W hW => by
    rw [hr]
    exact decode_any (HG.out.below hW HG.out.sz hW.size) s.b most A0 c0 hc0 (Kd.C_below hC0 hW) h.ok.byte hlen
  have HFA := Aside0.mk (hfa X.drew (below_drew1 (Below.refl _ _)))
  have HFB := Aside0.mk (hfa (X.drew.alloc (.cells noCells 43)) ((below_drew1 (Below.refl _ _)).alloc (Nat.le_refl _) _))
  clear h h1 h2 hX hbx hh hr hfa hC0 hg hw hlen
  go_enter Tryd.func10, Tryd.ntmps10
  go_upto_region 1 with fail
  refine wp_wld (w2 := X) (by rw [HX.out]; rfl) ?_
  clear HX
  go_upto_region 3 with fail
  refine start_ (n := 17) (S := fun w' => w'.cell? ⟨F, 1, none⟩ = some (.slice A0 s.b.length c0) ∧ w'.cell? ⟨F, 0, none⟩ = some (.int .i64 most)) (ds := [14]) #[false, false, false, false, false, false, false, false, false, false, false, false, false, false, false, false, false] (by kernel_rfl) rfl rfl ⟨x1, x0⟩ (fun hHeld => ?_)
  refine pure_ (i := 0) (N := some 17) (v := ?_) (a' := ?_) #[true, false, false, false, false, false, false, false, false, false, false, false, false, false, false, false, false] rfl rfl (by kernel_rfl) (fun _ _ _ h => h) (Or.inl ⟨by rfl, ?_⟩) ?_ ?_
  rotate_left
  · intro w'
    go_simp
    with_reducible rfl
  rotate_left
  · simp only [Act.put, List.setIfInBounds_toArray, List.set_cons_zero, List.set_cons_succ, i64_w, i32_w]
    rfl
  refine pure_ (i := 1) (N := some 18) (v := ?_) (a' := ?_) #[true, true, false, false, false, false, false, false, false, false, false, false, false, false, false, false, false] rfl rfl (by kernel_rfl) (fun _ _ _ h => h) (Or.inl ⟨by rfl, ?_⟩) ?_ ?_
  rotate_left
  · intro w'
    go_simp
    with_reducible rfl
  rotate_left
  · simp only [Act.put, List.setIfInBounds_toArray, List.set_cons_zero, List.set_cons_succ, i64_w, i32_w]
    rfl
  refine pure_ (i := 2) (N := some 19) (v := ?_) (a' := ?_) #[true, true, true, false, false, false, false, false, false, false, false, false, false, false, false, false, false] rfl rfl (by kernel_rfl) (fun _ _ _ h => h) (Or.inl ⟨by rfl, ?_⟩) ?_ ?_
  rotate_left
  · intro w'
    go_simp
    with_reducible rfl
  rotate_left
  · simp only [Act.put, List.setIfInBounds_toArray, List.set_cons_zero, List.set_cons_succ, i64_w, i32_w]
    rfl
  refine pure_ (i := 4) (N := some 21) (v := ?_) (a' := ?_) #[true, true, true, false, true, false, false, false, false, false, false, false, false, false, false, false, false] rfl rfl (by kernel_rfl) (fun _ _ _ h => h) (Or.inl ⟨by rfl, ?_⟩) ?_ ?_
  rotate_left
  · intro w'
    go_simp
    with_reducible rfl
  rotate_left
  · simp only [Act.put, List.setIfInBounds_toArray, List.set_cons_zero, List.set_cons_succ, i64_w, i32_w]
    rfl
  refine pure_ (i := 5) (N := some 22) (v := ?_) (a' := ?_) #[true, true, true, false, true, true, false, false, false, false, false, false, false, false, false, false, false] rfl rfl (by kernel_rfl) (fun _ _ _ h => h) (Or.inl ⟨by rfl, ?_⟩) ?_ ?_
  rotate_left
  · intro w'
    go_simp
    with_reducible rfl
  rotate_left
  · simp only [Act.put, List.setIfInBounds_toArray, List.set_cons_zero, List.set_cons_succ, i64_w, i32_w]
    rfl
  refine pure_ (i := 6) (N := some 23) (v := ?_) (a' := ?_) #[true, true, true, false, true, true, true, false, false, false, false, false, false, false, false, false, false] rfl rfl (by kernel_rfl) (fun _ _ _ h => h) (Or.inl ⟨by rfl, ?_⟩) ?_ ?_
  rotate_left
  · intro w'
    go_simp
    with_reducible rfl
  rotate_left
  · simp only [Act.put, List.setIfInBounds_toArray, List.set_cons_zero, List.set_cons_succ, i64_w, i32_w]
    rfl
  refine take_ (i := 3) (N := some 20) (v := ?_) (a' := ?_) #[true, true, true, true, true, true, true, false, false, false, false, false, false, false, false, false, false] rfl rfl (by kernel_rfl) (fun _ _ _ h => h) (Or.inl ⟨by rfl, ?_⟩) hHeld ?_ ?_
  rotate_left
  · rintro w' ⟨s0, s1⟩
    go_simp
    with_reducible rfl
  rotate_left
  · simp only [Act.put, List.setIfInBounds_toArray, List.set_cons_zero, List.set_cons_succ, i64_w, i32_w]
    rfl
  refine take_ (i := 7) (N := some 24) (v := ?_) (a' := ?_) #[true, true, true, true, true, true, true, true, false, false, false, false, false, false, false, false, false] rfl rfl (by kernel_rfl) (fun _ _ _ h => h) (Or.inl ⟨by rfl, ?_⟩) hHeld ?_ ?_
  rotate_left
  · rintro w' ⟨s0, s1⟩
    go_simp
    with_reducible rfl
  rotate_left
  · simp only [Act.put, List.setIfInBounds_toArray, List.set_cons_zero, List.set_cons_succ, i64_w, i32_w]
    rfl
  refine join_ (σ := Nat × List Value × Value) 3 #[true, true, true, true, true, true, true, true, true, true, true, true, true, true, false, false, false] (fun t => [(25, .tuple #[.agg t.2.1.toArray, .int .i64 r.n, t.2.2]), (16, .tuple #[.agg t.2.1.toArray, .int .i64 r.n, t.2.2]), (26, .agg t.2.1.toArray), (27, .int .i64 r.n), (28, t.2.2), (5, .pointer (some ⟨t.1, 0, none⟩))]) (fun t w' => DN X r t.1 t.2.1 t.2.2 w') ?_ ?_
  rotate_left
  · intro hCont
    refine two_ (i := 8) (j := 13) (Ni := some 25) (Nj := some 5) #[true, true, true, true, true, true, true, true, true, false, false, false, false, false, false, false, false] #[true, true, true, true, true, true, true, true, false, false, false, false, false, true, false, false, false] rfl rfl rfl rfl (by kernel_rfl) (by decide) (by decide) (fun K hK => ?_) (fun K hK => ?_)
    · skip
      refine goes_ Tryd.func14 (by kernel_rfl) rfl #[.slice A0 s.b.length c0, .int .i64 most] (by rfl) rfl rfl (by simp only [List.map_toArray, List.map_cons, List.map_nil]; rfl) ?_
      with_reducible refine (HFA.out).mono ?_
      rintro e w4 ⟨cs4, ev4, rfl, hM4, hE4, hB4⟩
      refine ⟨_, rfl, ?_⟩
      refine hK.out _ _ ⟨(hB4.cell (blk_lt_cell hHeld.1)).trans hHeld.1, (hB4.cell (blk_lt_cell hHeld.2)).trans hHeld.2⟩ (fun hHeld => ?_)
      clear hK K
      refine norm_ (a' := ?_) ?_ ?_
      rotate_left
      · show Act.put _ (some 25) _ = _
        simp only [Act.put, List.setIfInBounds_toArray, List.set_cons_zero, List.set_cons_succ, i64_w, i32_w]
        rfl
      refine pure_ (i := 9) (N := some 16) (v := ?_) (a' := ?_) #[true, true, true, true, true, true, true, true, true, true, false, false, false, false, false, false, false] rfl rfl (by kernel_rfl) (fun _ _ _ h => h) (Or.inl ⟨by rfl, ?_⟩) ?_ ?_
      rotate_left
      · intro w'
        go_simp
        with_reducible rfl
      rotate_left
      · simp only [Act.put, List.setIfInBounds_toArray, List.set_cons_zero, List.set_cons_succ, i64_w, i32_w]
        rfl
      refine pure_ (i := 10) (N := some 26) (v := ?_) (a' := ?_) #[true, true, true, true, true, true, true, true, true, true, true, false, false, false, false, false, false] rfl rfl (by kernel_rfl) (fun _ _ _ h => h) (Or.inl ⟨by rfl, ?_⟩) ?_ ?_
      rotate_left
      · intro w'
        go_simp
        with_reducible rfl
      rotate_left
      · simp only [Act.put, List.setIfInBounds_toArray, List.set_cons_zero, List.set_cons_succ, i64_w, i32_w]
        rfl
      refine pure_ (i := 11) (N := some 27) (v := ?_) (a' := ?_) #[true, true, true, true, true, true, true, true, true, true, true, true, false, false, false, false, false] rfl rfl (by kernel_rfl) (fun _ _ _ h => h) (Or.inl ⟨by rfl, ?_⟩) ?_ ?_
      rotate_left
      · intro w'
        go_simp
        with_reducible rfl
      rotate_left
      · simp only [Act.put, List.setIfInBounds_toArray, List.set_cons_zero, List.set_cons_succ, i64_w, i32_w]
        rfl
      refine pure_ (i := 12) (N := some 28) (v := ?_) (a' := ?_) #[true, true, true, true, true, true, true, true, true, true, true, true, true, false, false, false, false] rfl rfl (by kernel_rfl) (fun _ _ _ h => h) (Or.inl ⟨by rfl, ?_⟩) ?_ ?_
      rotate_left
      · intro w'
        go_simp
        with_reducible rfl
      rotate_left
      · simp only [Act.put, List.setIfInBounds_toArray, List.set_cons_zero, List.set_cons_succ, i64_w, i32_w]
        rfl
      refine one_ (i := 13) (N := some 5) #[true, true, true, true, true, true, true, true, true, true, true, true, true, true, false, false, false] rfl rfl (by kernel_rfl) (by decide) (fun K hK => ?_)
      refine value_ (w1 := w4.alloc (.cells noCells 43)) (v := ?_) (by rfl) rfl ?_ ?_
      rotate_left 1
      · go_simp
        constructor
        · rfl
        · rfl
      refine hK.out _ _ ⟨(World.cell?_alloc_lt _ _ _ (blk_lt_cell hHeld.1)).trans hHeld.1, (World.cell?_alloc_lt _ _ _ (blk_lt_cell hHeld.2)).trans hHeld.2⟩ (fun hHeld => ?_)
      clear hK K
      refine norm_ (a' := ?_) ?_ ?_
      rotate_left
      · show Act.put _ (some 5) _ = _
        simp only [Act.put, List.setIfInBounds_toArray, List.set_cons_zero, List.set_cons_succ, i64_w, i32_w]
        rfl
      exact norm_ (by simp only [putAll, Act.put, List.setIfInBounds_toArray, List.set_cons_zero, List.set_cons_succ]) (hCont (w4.heap.size, cs4, ev4) _ (DN.callFirst hM4 hE4 hB4))
    · skip
      refine value_ (w1 := X.drew.alloc (.cells noCells 43)) (v := ?_) (by rfl) rfl ?_ ?_
      rotate_left 1
      · go_simp
        constructor
        · rfl
        · rfl
      refine hK.out _ _ ⟨(World.cell?_alloc_lt _ _ _ (blk_lt_cell hHeld.1)).trans hHeld.1, (World.cell?_alloc_lt _ _ _ (blk_lt_cell hHeld.2)).trans hHeld.2⟩ (fun hHeld => ?_)
      clear hK K
      refine norm_ (a' := ?_) ?_ ?_
      rotate_left
      · show Act.put _ (some 5) _ = _
        simp only [Act.put, List.setIfInBounds_toArray, List.set_cons_zero, List.set_cons_succ, i64_w, i32_w]
        rfl
      refine one_ (i := 8) (N := some 25) #[true, true, true, true, true, true, true, true, true, false, false, false, false, true, false, false, false] rfl rfl (by kernel_rfl) (by decide) (fun K hK => ?_)
      refine goes_ Tryd.func14 (by kernel_rfl) rfl #[.slice A0 s.b.length c0, .int .i64 most] (by rfl) rfl rfl (by simp only [List.map_toArray, List.map_cons, List.map_nil]; rfl) ?_
      with_reducible refine (HFB.out).mono ?_
      rintro e w4 ⟨cs4, ev4, rfl, hM4, hE4, hB4⟩
      refine ⟨_, rfl, ?_⟩
      refine hK.out _ _ ⟨(hB4.cell (blk_lt_cell hHeld.1)).trans hHeld.1, (hB4.cell (blk_lt_cell hHeld.2)).trans hHeld.2⟩ (fun hHeld => ?_)
      clear hK K
      refine norm_ (a' := ?_) ?_ ?_
      rotate_left
      · show Act.put _ (some 25) _ = _
        simp only [Act.put, List.setIfInBounds_toArray, List.set_cons_zero, List.set_cons_succ, i64_w, i32_w]
        rfl
      refine pure_ (i := 9) (N := some 16) (v := ?_) (a' := ?_) #[true, true, true, true, true, true, true, true, true, true, false, false, false, true, false, false, false] rfl rfl (by kernel_rfl) (fun _ _ _ h => h) (Or.inl ⟨by rfl, ?_⟩) ?_ ?_
      rotate_left
      · intro w'
        go_simp
        with_reducible rfl
      rotate_left
      · simp only [Act.put, List.setIfInBounds_toArray, List.set_cons_zero, List.set_cons_succ, i64_w, i32_w]
        rfl
      refine pure_ (i := 10) (N := some 26) (v := ?_) (a' := ?_) #[true, true, true, true, true, true, true, true, true, true, true, false, false, true, false, false, false] rfl rfl (by kernel_rfl) (fun _ _ _ h => h) (Or.inl ⟨by rfl, ?_⟩) ?_ ?_
      rotate_left
      · intro w'
        go_simp
        with_reducible rfl
      rotate_left
      · simp only [Act.put, List.setIfInBounds_toArray, List.set_cons_zero, List.set_cons_succ, i64_w, i32_w]
        rfl
      refine pure_ (i := 11) (N := some 27) (v := ?_) (a' := ?_) #[true, true, true, true, true, true, true, true, true, true, true, true, false, true, false, false, false] rfl rfl (by kernel_rfl) (fun _ _ _ h => h) (Or.inl ⟨by rfl, ?_⟩) ?_ ?_
      rotate_left
      · intro w'
        go_simp
        with_reducible rfl
      rotate_left
      · simp only [Act.put, List.setIfInBounds_toArray, List.set_cons_zero, List.set_cons_succ, i64_w, i32_w]
        rfl
      refine pure_ (i := 12) (N := some 28) (v := ?_) (a' := ?_) #[true, true, true, true, true, true, true, true, true, true, true, true, true, true, false, false, false] rfl rfl (by kernel_rfl) (fun _ _ _ h => h) (Or.inl ⟨by rfl, ?_⟩) ?_ ?_
      rotate_left
      · intro w'
        go_simp
        with_reducible rfl
      rotate_left
      · simp only [Act.put, List.setIfInBounds_toArray, List.set_cons_zero, List.set_cons_succ, i64_w, i32_w]
        rfl
      exact norm_ (by simp only [putAll, Act.put, List.setIfInBounds_toArray, List.set_cons_zero, List.set_cons_succ]) (hCont (X.heap.size, cs4, ev4) _ (DN.allocFirst hM4 hE4 hB4))
  rintro ⟨P, cs, ev⟩ w5 hD
  have HD5 := Aside0.mk hD
  clear hD
  refine norm_ (a' := ?_) ?_ ?_
  rotate_left
  · simp only [putAll, Act.put, List.setIfInBounds_toArray, List.set_cons_zero, List.set_cons_succ]
    rfl
  refine last_ (i := 14) (N := none) #[true, true, true, true, true, true, true, true, true, true, true, true, true, true, true, false, false] rfl rfl (by kernel_rfl) (by decide) (fun K hK => ?_)
  refine skip_ (w1 := w5.setRow P cs.toArray) (by rfl) rfl (exec_store_row (ty := 43) (x := .tmp 5) (y := .tmp 26) rfl rfl rfl HD5.out.p HD5.out.size HD5.out.sz2 HD5.out.one) ?_
  refine hK.out _ _ ?_
  clear hK K
  refine pure_ (i := 15) (N := some 6) (v := ?_) (a' := ?_) #[true, true, true, true, true, true, true, true, true, true, true, true, true, true, true, true, false] rfl rfl (by kernel_rfl) (fun _ _ _ h => h) (Or.inl ⟨by rfl, ?_⟩) ?_ ?_
  rotate_left
  · intro w'
    go_simp
    with_reducible rfl
  rotate_left
  · simp only [Act.put, List.setIfInBounds_toArray, List.set_cons_zero, List.set_cons_succ, i64_w, i32_w]
    rfl
  refine pure_ (i := 16) (N := some 7) (v := ?_) (a' := ?_) #[true, true, true, true, true, true, true, true, true, true, true, true, true, true, true, true, true] rfl rfl (by kernel_rfl) (fun _ _ _ h => h) (Or.inl ⟨by rfl, ?_⟩) ?_ ?_
  rotate_left
  · intro w'
    go_simp
    with_reducible rfl
  rotate_left
  · simp only [Act.put, List.setIfInBounds_toArray, List.set_cons_zero, List.set_cons_succ, i64_w, i32_w]
    rfl
  refine done_ (by kernel_rfl) ?_
  have HDL := Aside0.mk HD5.out.store
  clear HD5 HFA HFB
  generalize w5.setRow P cs.toArray = W3 at *
  have hF3 := HH.out.below HDL.out.bel
  have HF3 := Aside0.mk hF3
  have HG3 := Aside0.mk (HG.out.below HDL.out.bel HG.out.sz HDL.out.bel.size)
  have HQ3 := Aside0.mk ((HDL.out.bel.block _ (blk_lt HQ.out)).trans HQ.out)
  have hFb : ∃ A1 c1, s.b.length ≤ c1 ∧ W3.heap[F]? = some (.cells #[.int .i64 most, .slice A1 s.b.length c1, .int .i64 s.spent, .pointer none] 52 (0, 0)) ∧ BR W3 base (.slice A1 s.b.length c1) s.b := by
    obtain ⟨v, ev', g1, g2, g3⟩ := hF3.ex
    rw [hn] at g3
    have g3 : ev' = .pointer none := g3
    subst g3
    obtain ⟨A1, c1, rfl, g4, _⟩ := g2.reads
    exact ⟨A1, c1, g4, g1, g2⟩
  obtain ⟨A1, c1, hc1, hFB, hBR⟩ := hFb
  have HFB := Aside0.mk hFB
  have HBR := Aside0.mk hBR
  have HLE := Aside0.mk (show w.heap.size < X.heap.size ∧ base ≤ F ∧ F < w.heap.size from ⟨blk_lt HQ.out, HH.out.ge, hFl⟩)
  have x1 : W3.cell? ⟨F, 1, none⟩ = some (.slice A1 s.b.length c1) := blk_cell hFB 1
  have x2 : W3.cell? ⟨F, 2, none⟩ = some (.int .i64 s.spent) := blk_cell hFB 2
  have x3' : W3.cell? ⟨F, 3, none⟩ = some (.pointer none) := blk_cell hFB 3
  have z1 : W3.frozen? ⟨F, 1, none⟩ = false := blk_frozen hFB 1
  have z2 : W3.frozen? ⟨F, 2, none⟩ = false := blk_frozen hFB 2
  clear hF3 hFB hBR x0 x3
  have HEV := Aside0.mk HDL.out.ev
  have HB3 := Aside0.mk (HBX.out.trans (HDL.out.bel.mono HBX.out.size))
  cases hf : r.f with
  | some q =>
    obtain ⟨qa, qc⟩ := q
    have hev := HEV.out
    rw [hf] at hev
    obtain ⟨G, rfl, hG, hbG⟩ := hev
    have HNX := Aside0.mk (show nextF s r = (⟨noPkt, false, some (wrap64 (qa + s.spent), qc)⟩, ⟨[], s.spent, some (wrap64 (qa + s.spent), qc)⟩) by unfold nextF; rw [hf])
    have HAS := Aside0.mk (Errs.as_hit ⟨G, 0, none⟩ ⟨F, 3, none⟩ (.pointer none) W3 HG3.out.et x3' (blk_frozen HFB.out 3))
    have HGL := Aside0.mk (show G < W3.heap.size from blk_lt hG)
    have HGF := Aside0.mk hG
    have HGX := Aside0.mk hbG
    clear x1 x2 x3' z1 z2 hG
    go_upto_region 5 with (go_at_call 15; (with_reducible refine (HAS.out).mono ?_); rintro e w4 ⟨rfl, hw4⟩; have HW4 := Aside0.mk hw4; clear hw4)
    obtain ⟨wa, hwa, hba⟩ : ∃ wa : World, w4 = wa.setCell ⟨F, 3, none⟩ (.pointer (some ⟨G, 0, none⟩)) ∧ Below W3.heap.size W3 wa := ⟨_, HW4.out, (((Below.refl _ _).alloc (Nat.le_refl _) _).alloc (by simp <;> omega) _).alloc (by simp <;> omega) _ |>.alloc (by simp <;> omega) _⟩
    have hFa := (hba.block _ (blk_lt HFB.out)).trans HFB.out
    have hGa := (hba.block _ HGL.out).trans HGF.out
    have hQa := (hba.block _ (blk_lt HQ3.out)).trans HQ3.out
    have hF4 : w4.heap[F]? = some (.cells #[.int .i64 most, .slice A1 s.b.length c1, .int .i64 s.spent, .pointer (some ⟨G, 0, none⟩)] 52 (0, 0)) := by rw [hwa]; exact blk_set hFa 3 _
    have hneG : G ≠ F := by have := HLE.out; have := HGX.out; omega
    have hG4 : FltAt w4 G qa qc := by rw [hwa]; exact (Below.heap_setCell _ ⟨F, 3, none⟩ _ G hneG).trans hGa
    have hQ4 : w4.heap[w.heap.size]? = some (.cells noCells 43 (0, 0)) := by rw [hwa]; exact (Below.heap_setCell _ ⟨F, 3, none⟩ _ w.heap.size (by have := HLE.out; show w.heap.size ≠ F; omega)).trans hQa
    have hfr4 : Fr (fun k => k = F) w w4 := by rw [hwa]; exact ((Fr.of_below (fun k => k = F) HB3.out).trans (Fr.of_below (fun _ => False) hba) (fun _ _ e => e.elim)).setCell (fun _ => rfl) _
    have x3 : w4.cell? ⟨F, 3, none⟩ = some (.pointer (some ⟨G, 0, none⟩)) := blk_cell hF4 3
    have x2 : w4.cell? ⟨F, 2, none⟩ = some (.int .i64 s.spent) := blk_cell hF4 2
    have g0 : w4.cell? ⟨G, 0, none⟩ = some (.int .i64 qa) := blk_cell hG4 0
    have gz : w4.frozen? ⟨G, 0, none⟩ = false := blk_frozen hG4 0
    have HFL := Aside0.mk (FrIs.failed (w4 := w4) (x := wrap64 (qa + s.spent)) HLE.out.2.1 hF4 hG4 (by have := HLE.out; have := HGX.out; omega))
    obtain ⟨v1, hv1⟩ : ∃ v1, w4.drew.cell? ⟨F, 1, none⟩ = some v1 := ⟨_, blk_cell (show w4.drew.heap[F]? = _ from hF4) 1⟩
    have y1 : (w4.drew.setCell ⟨G, 0, none⟩ (.int .i64 (wrap64 (qa + s.spent)))).cell? ⟨F, 1, none⟩ = some v1 := (World.cell?_setCell_other _ _ _ _ (by simp; try omega)).trans hv1
    have yz : (w4.drew.setCell ⟨G, 0, none⟩ (.int .i64 (wrap64 (qa + s.spent)))).frozen? ⟨F, 1, none⟩ = false := blk_frozen ((Below.heap_setCell w4.drew ⟨G, 0, none⟩ _ F (Ne.symm hneG)).trans hF4) 1
    have HQ6 := Aside0.mk (show ((w4.drew.setCell ⟨G, 0, none⟩ (.int .i64 (wrap64 (qa + s.spent)))).setCell ⟨F, 1, none⟩ (.slice none 0 0)).heap[w.heap.size]? = some (.cells noCells 43 (0, 0)) from
      (Below.heap_setCell _ ⟨F, 1, none⟩ _ w.heap.size (by have := HLE.out; show w.heap.size ≠ F; omega)).trans ((Below.heap_setCell w4.drew ⟨G, 0, none⟩ _ w.heap.size (by have := HLE.out; have := HGX.out; show w.heap.size ≠ G; omega)).trans hQ4))
    have HFR6 := Aside0.mk (show Fr (fun k => k = F) w ((w4.drew.setCell ⟨G, 0, none⟩ (.int .i64 (wrap64 (qa + s.spent)))).setCell ⟨F, 1, none⟩ (.slice none 0 0)) from
      ((hfr4.drew).setCell (p := ⟨G, 0, none⟩) (fun h => by have := HLE.out; have := HGX.out; exact absurd h (by show ¬ G < w.heap.size; omega)) _).setCell (p := ⟨F, 1, none⟩) (fun _ => rfl) _)
    obtain ⟨W5, hW5⟩ : ∃ W5, W5 = w4.drew.setCell ⟨G, 0, none⟩ (.int .i64 (wrap64 (qa + s.spent))) := ⟨_, rfl⟩
    rw [← hW5] at y1 yz HQ6 HFR6 HFL
    have HW5 := Aside0.mk hW5
    clear hW5
    clear hF4 hG4 hQ4 hfr4 hFa hGa hQa hba hwa
    refine start_ (n := 15) (S := fun w' => w'.cell? ⟨F, 3, none⟩ = some (.pointer (some ⟨G, 0, none⟩)) ∧ w'.cell? ⟨G, 0, none⟩ = some (.int .i64 qa) ∧ w'.cell? ⟨F, 2, none⟩ = some (.int .i64 s.spent)) (ds := [14]) #[false, false, false, false, false, false, false, false, false, false, false, false, false, false, false] (by kernel_rfl) rfl rfl ⟨x3, g0, x2⟩ (fun hHeld => ?_)
    refine pure_ (i := 0) (N := some 35) (v := ?_) (a' := ?_) #[true, false, false, false, false, false, false, false, false, false, false, false, false, false, false] rfl rfl (by kernel_rfl) (fun _ _ _ h => h) (Or.inl ⟨by rfl, ?_⟩) ?_ ?_
    rotate_left
    · intro w'
      go_simp
      with_reducible rfl
    rotate_left
    · simp only [Act.put, List.setIfInBounds_toArray, List.set_cons_zero, List.set_cons_succ, i64_w, i32_w]
      rfl
    refine pure_ (i := 1) (N := some 36) (v := ?_) (a' := ?_) #[true, true, false, false, false, false, false, false, false, false, false, false, false, false, false] rfl rfl (by kernel_rfl) (fun _ _ _ h => h) (Or.inl ⟨by rfl, ?_⟩) ?_ ?_
    rotate_left
    · intro w'
      go_simp
      with_reducible rfl
    rotate_left
    · simp only [Act.put, List.setIfInBounds_toArray, List.set_cons_zero, List.set_cons_succ, i64_w, i32_w]
      rfl
    refine pure_ (i := 2) (N := some 37) (v := ?_) (a' := ?_) #[true, true, true, false, false, false, false, false, false, false, false, false, false, false, false] rfl rfl (by kernel_rfl) (fun _ _ _ h => h) (Or.inl ⟨by rfl, ?_⟩) ?_ ?_
    rotate_left
    · intro w'
      go_simp
      with_reducible rfl
    rotate_left
    · simp only [Act.put, List.setIfInBounds_toArray, List.set_cons_zero, List.set_cons_succ, i64_w, i32_w]
      rfl
    refine pure_ (i := 7) (N := some 42) (v := ?_) (a' := ?_) #[true, true, true, false, false, false, false, true, false, false, false, false, false, false, false] rfl rfl (by kernel_rfl) (fun _ _ _ h => h) (Or.inl ⟨by rfl, ?_⟩) ?_ ?_
    rotate_left
    · intro w'
      go_simp
      with_reducible rfl
    rotate_left
    · simp only [Act.put, List.setIfInBounds_toArray, List.set_cons_zero, List.set_cons_succ, i64_w, i32_w]
      rfl
    refine pure_ (i := 8) (N := some 43) (v := ?_) (a' := ?_) #[true, true, true, false, false, false, false, true, true, false, false, false, false, false, false] rfl rfl (by kernel_rfl) (fun _ _ _ h => h) (Or.inl ⟨by rfl, ?_⟩) ?_ ?_
    rotate_left
    · intro w'
      go_simp
      with_reducible rfl
    rotate_left
    · simp only [Act.put, List.setIfInBounds_toArray, List.set_cons_zero, List.set_cons_succ, i64_w, i32_w]
      rfl
    refine pure_ (i := 9) (N := some 44) (v := ?_) (a' := ?_) #[true, true, true, false, false, false, false, true, true, true, false, false, false, false, false] rfl rfl (by kernel_rfl) (fun _ _ _ h => h) (Or.inl ⟨by rfl, ?_⟩) ?_ ?_
    rotate_left
    · intro w'
      go_simp
      with_reducible rfl
    rotate_left
    · simp only [Act.put, List.setIfInBounds_toArray, List.set_cons_zero, List.set_cons_succ, i64_w, i32_w]
      rfl
    refine take_ (i := 3) (N := some 38) (v := ?_) (a' := ?_) #[true, true, true, true, false, false, false, true, true, true, false, false, false, false, false] rfl rfl (by kernel_rfl) (fun _ _ _ h => h) (Or.inl ⟨by rfl, ?_⟩) hHeld ?_ ?_
    rotate_left
    · rintro w' ⟨s0, s1, s2⟩
      go_simp
      with_reducible rfl
    rotate_left
    · simp only [Act.put, List.setIfInBounds_toArray, List.set_cons_zero, List.set_cons_succ, i64_w, i32_w]
      rfl
    refine pure_ (i := 4) (N := some 39) (v := ?_) (a' := ?_) #[true, true, true, true, true, false, false, true, true, true, false, false, false, false, false] rfl rfl (by kernel_rfl) (fun _ _ _ h => h) (Or.inl ⟨by rfl, ?_⟩) ?_ ?_
    rotate_left
    · intro w'
      go_simp
      with_reducible rfl
    rotate_left
    · simp only [Act.put, List.setIfInBounds_toArray, List.set_cons_zero, List.set_cons_succ, i64_w, i32_w]
      rfl
    refine pure_ (i := 5) (N := some 40) (v := ?_) (a' := ?_) #[true, true, true, true, true, true, false, true, true, true, false, false, false, false, false] rfl rfl (by kernel_rfl) (fun _ _ _ h => h) (Or.inl ⟨by rfl, ?_⟩) ?_ ?_
    rotate_left
    · intro w'
      go_simp
      with_reducible rfl
    rotate_left
    · simp only [Act.put, List.setIfInBounds_toArray, List.set_cons_zero, List.set_cons_succ, i64_w, i32_w]
      rfl
    refine take_ (i := 6) (N := some 41) (v := ?_) (a' := ?_) #[true, true, true, true, true, true, true, true, true, true, false, false, false, false, false] rfl rfl (by kernel_rfl) (fun _ _ _ h => h) (Or.inl ⟨by rfl, ?_⟩) hHeld ?_ ?_
    rotate_left
    · rintro w' ⟨s0, s1, s2⟩
      go_simp
      with_reducible rfl
    rotate_left
    · simp only [Act.put, List.setIfInBounds_toArray, List.set_cons_zero, List.set_cons_succ, i64_w, i32_w]
      rfl
    refine take_ (i := 10) (N := some 45) (v := ?_) (a' := ?_) #[true, true, true, true, true, true, true, true, true, true, true, false, false, false, false] rfl rfl (by kernel_rfl) (fun _ _ _ h => h) (Or.inl ⟨by rfl, ?_⟩) hHeld ?_ ?_
    rotate_left
    · rintro w' ⟨s0, s1, s2⟩
      go_simp
      with_reducible rfl
    rotate_left
    · simp only [Act.put, List.setIfInBounds_toArray, List.set_cons_zero, List.set_cons_succ, i64_w, i32_w]
      rfl
    refine pure_ (i := 11) (N := some 46) (v := ?_) (a' := ?_) #[true, true, true, true, true, true, true, true, true, true, true, true, false, false, false] rfl rfl (by kernel_rfl) (fun _ _ _ h => h) (Or.inl ⟨by rfl, ?_⟩) ?_ ?_
    rotate_left
    · intro w'
      go_simp
      with_reducible rfl
    rotate_left
    · simp only [Act.put, List.setIfInBounds_toArray, List.set_cons_zero, List.set_cons_succ, i64_w, i32_w]
      rfl
    refine pure_ (i := 12) (N := some 47) (v := ?_) (a' := ?_) #[true, true, true, true, true, true, true, true, true, true, true, true, true, false, false] rfl rfl (by kernel_rfl) (fun _ _ _ h => h) (Or.inl ⟨by rfl, ?_⟩) ?_ ?_
    rotate_left
    · intro w'
      go_simp
      with_reducible rfl
    rotate_left
    · simp only [Act.put, List.setIfInBounds_toArray, List.set_cons_zero, List.set_cons_succ, i64_w, i32_w]
      rfl
    refine pure_ (i := 13) (N := some 48) (v := ?_) (a' := ?_) #[true, true, true, true, true, true, true, true, true, true, true, true, true, true, false] rfl rfl (by kernel_rfl) (fun _ _ _ h => h) (Or.inl ⟨by rfl, ?_⟩) ?_ ?_
    rotate_left
    · intro w'
      go_simp
      with_reducible rfl
    rotate_left
    · simp only [Act.put, List.setIfInBounds_toArray, List.set_cons_zero, List.set_cons_succ, i64_w, i32_w]
      rfl
    refine last_ (i := 14) (N := none) #[true, true, true, true, true, true, true, true, true, true, true, true, true, true, true] rfl rfl (by kernel_rfl) (by decide) (fun K hK => ?_)
    refine skip_ (w1 := ?_) (by rfl) rfl ?_ ?_
    rotate_left
    · go_simp
      rfl
    refine hK.out _ _ ?_
    clear hK K
    refine done_ (by kernel_rfl) ?_
    first
      | rw [show (w4.setCell ⟨G, 0, none⟩ (.int .i64 (wrap64 (qa + s.spent)))).drew = W5 from by rw [HW5.out]; rfl]
      | rw [show w4.drew.setCell ⟨G, 0, none⟩ (.int .i64 (wrap64 (qa + s.spent))) = W5 from by rw [HW5.out]]
    clear HW5
    go_upto_region 7 with fail
    generalize W5.setCell ⟨F, 1, none⟩ (.slice none 0 0) = w6 at *
    have HT := Aside0.mk (told_any HFL.out (wrap64 (qa + s.spent), qc) rfl)
    clear y1 yz
    go_wp2_with (first
      | (go_at_call 13; (with_reducible refine (HT.out).mono ?_); rintro e w1 ⟨rfl, rfl⟩)
      | (refine wpList_store_row rfl 43 _ _ rfl w.heap.size _ rfl rfl 43 _ ((heap_alloc_old w6 _ (blk_lt HQ6.out)).trans HQ6.out) pktSize rfl (by simp [Value.oneCell']) ?_))
    have hq1 := (heap_alloc_old w6 (.cells #[.int .i64 (wrap64 (qa + s.spent)), .int .i64 qc] 61) (blk_lt HQ6.out)).trans HQ6.out
    have hfr := ((Fr.refl (fun k => k = w.heap.size) w6).alloc (.cells #[.int .i64 (wrap64 (qa + s.spent)), .int .i64 qc] 61)).trans (setRow_fr (w6.alloc (.cells #[.int .i64 (wrap64 (qa + s.spent)), .int .i64 qc] 61)) w.heap.size noCells) (fun _ _ e => e)
    rw [HNX.out]
    refine bodyPost_ret (results_dec Tryd.results10 rfl (setRow_block hq1) Tryd.underlying43 rfl pktSize) rfl ⟨noCells.toList, _, rfl, noM _ _, ⟨w6.heap.size, rfl, (setRow_far (by have := blk_lt HQ6.out; omega) _).trans (heap_alloc_new _ _), HFR6.out.size⟩, HFL.out.fr hfr (fun k hk e => ⟨_, _, e ▸ HQ6.out, by decide, by decide, by decide⟩), ?_⟩
    exact HFR6.out.trans hfr (fun k hk e => by omega)
  | none =>
    have hev := HEV.out
    rw [hf] at hev
    have hev : ev = .nilIface := hev
    subst hev
    by_cases hn0 : r.n = 0
    · have HNX := Aside0.mk (show nextF s r = (⟨noPkt, false, none⟩, s) by unfold nextF; rw [hf]; simp only [if_pos hn0])
      have t0 : (r.n == 0) = true := by rw [hn0]; rfl
      go_wp2_with (first
        | (go_at_call 15; (with_reducible refine (Errs.as_nil _ _).mono ?_); rintro e w4 ⟨rfl, hw⟩; have hw := hw.symm; subst hw)
        | (refine wpList_store_row rfl 43 _ _ rfl w.heap.size _ rfl rfl 43 _ HQ3.out pktSize rfl (by simp [Value.oneCell']) ?_))
      rw [HNX.out]
      refine bodyPost_ret (results_dec Tryd.results10 rfl (setRow_block HQ3.out) Tryd.underlying43 rfl pktSize) rfl ⟨noCells.toList, _, rfl, noM _ _, rfl, HF3.out.fr (setRow_fr W3 w.heap.size noCells) (fun k hk e => ⟨_, _, e ▸ HQ3.out, by decide, by decide, by decide⟩), ?_⟩
      exact (Fr.of_below (fun k => k = F) HB3.out).trans (setRow_fr W3 w.heap.size noCells) (fun k hk e => by omega)
    · have HNX := Aside0.mk (show nextF s r = (⟨r.p, true, none⟩, ⟨s.b.drop r.n.toNat, wrap64 (s.spent + r.n), none⟩) by unfold nextF; rw [hf]; simp only [if_neg hn0])
      have t0 : (r.n == 0) = false := beq_eq_false_iff_ne.2 hn0
      obtain ⟨_, hn2, hnl, _⟩ := HTK.out hn0
      have c1' : 0 ≤ r.n ∧ r.n ≤ (s.b.length : Int) := ⟨by omega, hnl⟩
      have c2' : (s.b.length : Int) ≤ c1 := by omega
      have c3' : 0 ≤ (s.b.length : Int) := by omega
      go_upto_region 10 with (go_at_call 15; (with_reducible refine (Errs.as_nil _ _).mono ?_); rintro e w4 ⟨rfl, hw⟩; have hw := hw.symm; subst hw)
      refine start_ (n := 20) (S := fun w' => w'.cell? ⟨F, 1, none⟩ = some (.slice A1 s.b.length c1)) (ds := [19]) #[false, false, false, false, false, false, false, false, false, false, false, false, false, false, false, false, false, false, false, false] (by kernel_rfl) rfl rfl (x1) (fun hHeld => ?_)
      refine pure_ (i := 0) (N := some 58) (v := ?_) (a' := ?_) #[true, false, false, false, false, false, false, false, false, false, false, false, false, false, false, false, false, false, false, false] rfl rfl (by kernel_rfl) (fun _ _ _ h => h) (Or.inl ⟨by rfl, ?_⟩) ?_ ?_
      rotate_left
      · intro w'
        go_simp
        with_reducible rfl
      rotate_left
      · simp only [Act.put, List.setIfInBounds_toArray, List.set_cons_zero, List.set_cons_succ, i64_w, i32_w]
        rfl
      refine pure_ (i := 1) (N := some 59) (v := ?_) (a' := ?_) #[true, true, false, false, false, false, false, false, false, false, false, false, false, false, false, false, false, false, false, false] rfl rfl (by kernel_rfl) (fun _ _ _ h => h) (Or.inl ⟨by rfl, ?_⟩) ?_ ?_
      rotate_left
      · intro w'
        go_simp
        with_reducible rfl
      rotate_left
      · simp only [Act.put, List.setIfInBounds_toArray, List.set_cons_zero, List.set_cons_succ, i64_w, i32_w]
        rfl
      refine pure_ (i := 2) (N := some 60) (v := ?_) (a' := ?_) #[true, true, true, false, false, false, false, false, false, false, false, false, false, false, false, false, false, false, false, false] rfl rfl (by kernel_rfl) (fun _ _ _ h => h) (Or.inl ⟨by rfl, ?_⟩) ?_ ?_
      rotate_left
      · intro w'
        go_simp
        with_reducible rfl
      rotate_left
      · simp only [Act.put, List.setIfInBounds_toArray, List.set_cons_zero, List.set_cons_succ, i64_w, i32_w]
        rfl
      refine pure_ (i := 3) (N := some 61) (v := ?_) (a' := ?_) #[true, true, true, true, false, false, false, false, false, false, false, false, false, false, false, false, false, false, false, false] rfl rfl (by kernel_rfl) (fun _ _ _ h => h) (Or.inl ⟨by rfl, ?_⟩) ?_ ?_
      rotate_left
      · intro w'
        go_simp
        with_reducible rfl
      rotate_left
      · simp only [Act.put, List.setIfInBounds_toArray, List.set_cons_zero, List.set_cons_succ, i64_w, i32_w]
        rfl
      refine pure_ (i := 5) (N := some 63) (v := ?_) (a' := ?_) #[true, true, true, true, false, true, false, false, false, false, false, false, false, false, false, false, false, false, false, false] rfl rfl (by kernel_rfl) (fun _ _ _ h => h) (Or.inl ⟨by rfl, ?_⟩) ?_ ?_
      rotate_left
      · intro w'
        go_simp
        with_reducible rfl
      rotate_left
      · simp only [Act.put, List.setIfInBounds_toArray, List.set_cons_zero, List.set_cons_succ, i64_w, i32_w]
        rfl
      refine pure_ (i := 6) (N := some 64) (v := ?_) (a' := ?_) #[true, true, true, true, false, true, true, false, false, false, false, false, false, false, false, false, false, false, false, false] rfl rfl (by kernel_rfl) (fun _ _ _ h => h) (Or.inl ⟨by rfl, ?_⟩) ?_ ?_
      rotate_left
      · intro w'
        go_simp
        with_reducible rfl
      rotate_left
      · simp only [Act.put, List.setIfInBounds_toArray, List.set_cons_zero, List.set_cons_succ, i64_w, i32_w]
        rfl
      refine pure_ (i := 7) (N := some 65) (v := ?_) (a' := ?_) #[true, true, true, true, false, true, true, true, false, false, false, false, false, false, false, false, false, false, false, false] rfl rfl (by kernel_rfl) (fun _ _ _ h => h) (Or.inl ⟨by rfl, ?_⟩) ?_ ?_
      rotate_left
      · intro w'
        go_simp
        with_reducible rfl
      rotate_left
      · simp only [Act.put, List.setIfInBounds_toArray, List.set_cons_zero, List.set_cons_succ, i64_w, i32_w]
        rfl
      refine pure_ (i := 8) (N := some 66) (v := ?_) (a' := ?_) #[true, true, true, true, false, true, true, true, true, false, false, false, false, false, false, false, false, false, false, false] rfl rfl (by kernel_rfl) (fun _ _ _ h => h) (Or.inl ⟨by rfl, ?_⟩) ?_ ?_
      rotate_left
      · intro w'
        go_simp
        with_reducible rfl
      rotate_left
      · simp only [Act.put, List.setIfInBounds_toArray, List.set_cons_zero, List.set_cons_succ, i64_w, i32_w]
        rfl
      refine pure_ (i := 11) (N := some 69) (v := ?_) (a' := ?_) #[true, true, true, true, false, true, true, true, true, false, false, true, false, false, false, false, false, false, false, false] rfl rfl (by kernel_rfl) (fun _ _ _ h => h) (Or.inl ⟨by rfl, ?_⟩) ?_ ?_
      rotate_left
      · intro w'
        go_simp
        with_reducible rfl
      rotate_left
      · simp only [Act.put, List.setIfInBounds_toArray, List.set_cons_zero, List.set_cons_succ, i64_w, i32_w]
        rfl
      refine pure_ (i := 12) (N := some 70) (v := ?_) (a' := ?_) #[true, true, true, true, false, true, true, true, true, false, false, true, true, false, false, false, false, false, false, false] rfl rfl (by kernel_rfl) (fun _ _ _ h => h) (Or.inl ⟨by rfl, ?_⟩) ?_ ?_
      rotate_left
      · intro w'
        go_simp
        with_reducible rfl
      rotate_left
      · simp only [Act.put, List.setIfInBounds_toArray, List.set_cons_zero, List.set_cons_succ, i64_w, i32_w]
        rfl
      refine pure_ (i := 13) (N := some 71) (v := ?_) (a' := ?_) #[true, true, true, true, false, true, true, true, true, false, false, true, true, true, false, false, false, false, false, false] rfl rfl (by kernel_rfl) (fun _ _ _ h => h) (Or.inl ⟨by rfl, ?_⟩) ?_ ?_
      rotate_left
      · intro w'
        go_simp
        with_reducible rfl
      rotate_left
      · simp only [Act.put, List.setIfInBounds_toArray, List.set_cons_zero, List.set_cons_succ, i64_w, i32_w]
        rfl
      refine take_ (i := 4) (N := some 62) (v := ?_) (a' := ?_) #[true, true, true, true, true, true, true, true, true, false, false, true, true, true, false, false, false, false, false, false] rfl rfl (by kernel_rfl) (fun _ _ _ h => h) (Or.inl ⟨by rfl, ?_⟩) hHeld ?_ ?_
      rotate_left
      · intro w' s0
        go_simp
        with_reducible rfl
      rotate_left
      · simp only [Act.put, List.setIfInBounds_toArray, List.set_cons_zero, List.set_cons_succ, i64_w, i32_w]
        rfl
      refine take_ (i := 9) (N := some 67) (v := ?_) (a' := ?_) #[true, true, true, true, true, true, true, true, true, true, false, true, true, true, false, false, false, false, false, false] rfl rfl (by kernel_rfl) (fun _ _ _ h => h) (Or.inl ⟨by rfl, ?_⟩) hHeld ?_ ?_
      rotate_left
      · intro w' s0
        go_simp
        with_reducible rfl
      rotate_left
      · simp only [Act.put, List.setIfInBounds_toArray, List.set_cons_zero, List.set_cons_succ, i64_w, i32_w]
        rfl
      refine pure_ (i := 10) (N := some 68) (v := ?_) (a' := ?_) #[true, true, true, true, true, true, true, true, true, true, true, true, true, true, false, false, false, false, false, false] rfl rfl (by kernel_rfl) (fun _ _ _ h => h) (Or.inl ⟨by rfl, ?_⟩) ?_ ?_
      rotate_left
      · intro w'
        go_simp
        with_reducible rfl
      rotate_left
      · simp only [Act.put, List.setIfInBounds_toArray, List.set_cons_zero, List.set_cons_succ, i64_w, i32_w]
        rfl
      refine take_ (i := 14) (N := some 72) (v := ?_) (a' := ?_) #[true, true, true, true, true, true, true, true, true, true, true, true, true, true, true, false, false, false, false, false] rfl rfl (by kernel_rfl) (fun _ _ _ h => h) (Or.inl ⟨by rfl, ?_⟩) hHeld ?_ ?_
      rotate_left
      · intro w' s0
        go_simp
        with_reducible rfl
      rotate_left
      · simp only [Act.put, List.setIfInBounds_toArray, List.set_cons_zero, List.set_cons_succ, i64_w, i32_w]
        rfl
      refine pure_ (i := 15) (N := some 73) (v := ?_) (a' := ?_) #[true, true, true, true, true, true, true, true, true, true, true, true, true, true, true, true, false, false, false, false] rfl rfl (by kernel_rfl) (fun _ _ _ h => h) (Or.inl ⟨by rfl, ?_⟩) ?_ ?_
      rotate_left
      · intro w'
        go_simp
        with_reducible rfl
      rotate_left
      · simp only [Act.put, List.setIfInBounds_toArray, List.set_cons_zero, List.set_cons_succ, i64_w, i32_w]
        rfl
      refine pure_ (i := 16) (N := some 74) (v := ?_) (a' := ?_) #[true, true, true, true, true, true, true, true, true, true, true, true, true, true, true, true, true, false, false, false] rfl rfl (by kernel_rfl) (fun _ _ _ h => h) (Or.inl ⟨by rfl, ?_⟩) ?_ ?_
      rotate_left
      · intro w'
        go_simp
        with_reducible rfl
      rotate_left
      · simp only [Act.put, List.setIfInBounds_toArray, List.set_cons_zero, List.set_cons_succ, i64_w, i32_w]
        rfl
      refine pure_ (i := 17) (N := some 75) (v := ?_) (a' := ?_) #[true, true, true, true, true, true, true, true, true, true, true, true, true, true, true, true, true, true, false, false] rfl rfl (by kernel_rfl) (fun _ _ _ h => h) (Or.inl ⟨by rfl, ?_⟩) ?_ ?_
      rotate_left
      · intro w'
        go_simp
        with_reducible rfl
      rotate_left
      · simp only [Act.put, List.setIfInBounds_toArray, List.set_cons_zero, List.set_cons_succ, i64_w, i32_w]
        rfl
      refine pure_ (i := 18) (N := some 76) (v := ?_) (a' := ?_) #[true, true, true, true, true, true, true, true, true, true, true, true, true, true, true, true, true, true, true, false] rfl rfl (by kernel_rfl) (fun _ _ _ h => h) (Or.inl ⟨by rfl, ?_⟩) ?_ ?_
      rotate_left
      · intro w'
        go_simp
        with_reducible rfl
      rotate_left
      · simp only [Act.put, List.setIfInBounds_toArray, List.set_cons_zero, List.set_cons_succ, i64_w, i32_w]
        rfl
      refine last_ (i := 19) (N := none) #[true, true, true, true, true, true, true, true, true, true, true, true, true, true, true, true, true, true, true, true] rfl rfl (by kernel_rfl) (by decide) (fun K hK => ?_)
      refine skip_ (w1 := ?_) (by rfl) rfl ?_ ?_
      rotate_left
      · go_simp
        rfl
      refine hK.out _ _ ?_
      clear hK K
      refine done_ (by kernel_rfl) ?_
      have hbr5 := HBR.out.cut3 (k := r.n.toNat) (by omega)
      have hF5 : (W3.setCell ⟨F, 1, none⟩ (.slice (if s.b.length = r.n.toNat then A1 else Option.map (fun x => x.add r.n.toNat) A1) (s.b.length - r.n.toNat) (s.b.length - r.n.toNat))).drew.heap[F]? = some (.cells #[.int .i64 most, .slice (if s.b.length = r.n.toNat then A1 else Option.map (fun x => x.add r.n.toNat) A1) (s.b.length - r.n.toNat) (s.b.length - r.n.toNat), .int .i64 s.spent, .pointer none] 52 (0, 0)) := blk_set HFB.out 1 _
      have hfr5 : Fr (fun k => k = F) W3 (W3.setCell ⟨F, 1, none⟩ (.slice (if s.b.length = r.n.toNat then A1 else Option.map (fun x => x.add r.n.toNat) A1) (s.b.length - r.n.toNat) (s.b.length - r.n.toNat))).drew := ((Fr.refl (fun k => k = F) W3).setCell (p := ⟨F, 1, none⟩) (fun _ => rfl) _).drew
      have hbrx : BR (W3.setCell ⟨F, 1, none⟩ (.slice (if s.b.length = r.n.toNat then A1 else Option.map (fun x => x.add r.n.toNat) A1) (s.b.length - r.n.toNat) (s.b.length - r.n.toNat))).drew base (.slice (if s.b.length = r.n.toNat then A1 else Option.map (fun x => x.add r.n.toNat) A1) (s.b.length - r.n.toNat) (s.b.length - r.n.toNat)) (s.b.drop r.n.toNat) := hbr5.fr hfr5 (fun k hk e => ⟨_, _, e ▸ HFB.out, by decide⟩)
      clear hbr5 x1 x2 x3' z1 z2
      generalize (W3.setCell ⟨F, 1, none⟩ (.slice (if s.b.length = r.n.toNat then A1 else Option.map (fun x => x.add r.n.toNat) A1) (s.b.length - r.n.toNat) (s.b.length - r.n.toNat))).drew = W5 at *
      generalize hA' : (if s.b.length = r.n.toNat then A1 else Option.map (fun x => x.add r.n.toNat) A1) = A' at *
      clear hA'
      obtain ⟨nl, hnl'⟩ : ∃ nl, s.b.length - r.n.toNat = nl := ⟨_, rfl⟩
      rw [hnl'] at hF5 hbrx
      have HNL := Aside0.mk (show (s.b.drop r.n.toNat).length = nl by rw [List.length_drop]; exact hnl')
      have HF5 := Aside0.mk hF5
      have HBX5 := Aside0.mk hbrx
      have x1 : W5.cell? ⟨F, 1, none⟩ = some (.slice A' nl nl) := blk_cell hF5 1
      have x2 : W5.cell? ⟨F, 2, none⟩ = some (.int .i64 s.spent) := blk_cell hF5 2
      have z2 : W5.frozen? ⟨F, 2, none⟩ = false := blk_frozen hF5 2
      have hF6 : (W5.setCell ⟨F, 2, none⟩ (.int .i64 (wrap64 (s.spent + r.n)))).heap[F]? = some (.cells #[.int .i64 most, .slice A' nl nl, .int .i64 (wrap64 (s.spent + r.n)), .pointer none] 52 (0, 0)) := blk_set hF5 2 _
      have y1 : (W5.setCell ⟨F, 2, none⟩ (.int .i64 (wrap64 (s.spent + r.n)))).cell? ⟨F, 1, none⟩ = some (.slice A' nl nl) := blk_cell hF6 1
      have yz : (W5.setCell ⟨F, 2, none⟩ (.int .i64 (wrap64 (s.spent + r.n)))).frozen? ⟨F, 1, none⟩ = false := blk_frozen hF6 1
      have HF6 := Aside0.mk hF6
      have HFR5 := Aside0.mk hfr5
      have hset : ∀ (j : Nat) (u : Value) (W : World), Fr (fun k => k = F) W (W.setCell ⟨F, j, none⟩ u) := fun j u W => (Fr.refl (fun k => k = F) W).setCell (p := ⟨F, j, none⟩) (fun _ => rfl) u
      have HSET := Aside0.mk hset
      have HPQ := Aside0.mk (show P ≠ F ∧ w.heap.size ≠ F from by have := HDL.out.ge; have := HLE.out; omega)
      -- what is over in the frame's own block alone
      have HGO := Aside0.mk (fun (W : World) (hW : Fr (fun k => k = F) W3 W) => show W.heap[P]? = some (.cells cs.toArray 43 (0, 0)) ∧ W.heap[w.heap.size]? = some (.cells noCells 43 (0, 0)) ∧ kPkt.M W X.heap.size (fun _ => True) r.p cs ∧ Fr (fun k => k = F) w W from
        ⟨(hW.block _ (blk_lt HDL.out.p) HPQ.out.1).trans HDL.out.p, (hW.block _ (blk_lt HQ3.out) HPQ.out.2).trans HQ3.out, M_frT HDL.out.m hW (fun k hk e => ⟨_, _, e ▸ HFB.out, by decide⟩), (Fr.of_below (fun k => k = F) HB3.out).trans hW (fun _ _ e => e)⟩)
      have hsz25 : cs.toArray.size = 25 := by rw [List.size_toArray, kPkt.K_len (kPkt.K_of_M HDL.out.m)]; rfl
      have HSZ := Aside0.mk (show (Tryd.prog.info? 43).map (·.size) = some cs.toArray.size by rw [hsz25]; exact pktSize)
      have HS2 := Aside0.mk (show noCells.size = cs.toArray.size by rw [hsz25]; rfl)
      have HONE := Aside0.mk (show cs.toArray.all (·.oneCell') = true by
        rw [Array.all_eq_true_iff_forall_mem]
        intro u hu
        exact kPkt.K_one (kPkt.K_of_M HDL.out.m) u (by simpa using hu))
      clear hF5 hF6 hfr5 hset hbrx hsz25
      rw [hnl']
      by_cases hm0 : nl = 0
      · have tm : ((nl : Int) == 0) = true := by rw [hm0]; rfl
        have HW7 := Aside0.mk (HGO.out ((W5.setCell ⟨F, 2, none⟩ (.int .i64 (wrap64 (s.spent + r.n)))).setCell ⟨F, 1, none⟩ (.slice none 0 0)) ((HFR5.out.trans (HSET.out 2 _ W5) (fun _ _ e => e)).trans (HSET.out 1 _ _) (fun _ _ e => e)))
        have HF7 := Aside0.mk (show FrIs ((W5.setCell ⟨F, 2, none⟩ (.int .i64 (wrap64 (s.spent + r.n)))).setCell ⟨F, 1, none⟩ (.slice none 0 0)) base F most ⟨s.b.drop r.n.toNat, wrap64 (s.spent + r.n), none⟩ from
          ⟨⟨_, _, blk_set HF6.out 1 _, by rw [List.eq_nil_of_length_eq_zero (HNL.out.trans hm0)]; exact BR.nil _ _, rfl⟩, HLE.out.2.1, ⟨HH.out.ok.byte.drop _, by simp⟩⟩)
        clear hm0
        go_upto_region 14 with fail
        generalize (W5.setCell ⟨F, 2, none⟩ (.int .i64 (wrap64 (s.spent + r.n)))).setCell ⟨F, 1, none⟩ (.slice none 0 0) = W7 at *
        clear y1 yz x1 x2 z2
        go_wp2_with (first
          | (refine wpList_load_row rfl 43 _ rfl P rfl 43 _ (0, 0) _ HW7.out.1 Tryd.underlying43 rfl HSZ.out ?_)
          | (refine wpList_store_row rfl 43 _ _ rfl w.heap.size _ rfl rfl 43 _ HW7.out.2.1 HSZ.out HS2.out HONE.out ?_))
        rw [HNX.out]
        refine bodyPost_ret (results_dec Tryd.results10 rfl (setRow_block HW7.out.2.1) Tryd.underlying43 rfl HSZ.out) rfl ⟨cs, _, rfl, M_frT (kPkt.M_lower (Nat.le_of_lt HLE.out.1) HW7.out.2.2.1) (setRow_fr W7 w.heap.size _) (fun k hk e => ⟨_, _, e ▸ HW7.out.2.1, by decide⟩), rfl, HF7.out.fr (setRow_fr W7 w.heap.size _) (fun k hk e => ⟨_, _, e ▸ HW7.out.2.1, by decide, by decide, by decide⟩), ?_⟩
        exact HW7.out.2.2.2.trans (setRow_fr W7 w.heap.size _) (fun k hk e => by omega)
      · have tm : ((nl : Int) == 0) = false := beq_eq_false_iff_ne.2 (by omega)
        have HW7 := Aside0.mk (HGO.out (W5.setCell ⟨F, 2, none⟩ (.int .i64 (wrap64 (s.spent + r.n)))) (HFR5.out.trans (HSET.out 2 _ W5) (fun _ _ e => e)))
        have HF7 := Aside0.mk (show FrIs (W5.setCell ⟨F, 2, none⟩ (.int .i64 (wrap64 (s.spent + r.n)))) base F most ⟨s.b.drop r.n.toNat, wrap64 (s.spent + r.n), none⟩ from
          ⟨⟨_, _, HF6.out, HBX5.out.fr (HSET.out 2 _ W5) (fun k hk e => ⟨_, _, e ▸ HF5.out, by decide⟩), rfl⟩, HLE.out.2.1, ⟨HH.out.ok.byte.drop _, by simp⟩⟩)
        clear hm0
        go_upto_region 14 with fail
        generalize W5.setCell ⟨F, 2, none⟩ (.int .i64 (wrap64 (s.spent + r.n))) = W7 at *
        clear y1 yz x1 x2 z2
        go_wp2_with (first
          | (refine wpList_load_row rfl 43 _ rfl P rfl 43 _ (0, 0) _ HW7.out.1 Tryd.underlying43 rfl HSZ.out ?_)
          | (refine wpList_store_row rfl 43 _ _ rfl w.heap.size _ rfl rfl 43 _ HW7.out.2.1 HSZ.out HS2.out HONE.out ?_))
        rw [HNX.out]
        refine bodyPost_ret (results_dec Tryd.results10 rfl (setRow_block HW7.out.2.1) Tryd.underlying43 rfl HSZ.out) rfl ⟨cs, _, rfl, M_frT (kPkt.M_lower (Nat.le_of_lt HLE.out.1) HW7.out.2.2.1) (setRow_fr W7 w.heap.size _) (fun k hk e => ⟨_, _, e ▸ HW7.out.2.1, by decide⟩), rfl, HF7.out.fr (setRow_fr W7 w.heap.size _) (fun k hk e => ⟨_, _, e ▸ HW7.out.2.1, by decide, by decide, by decide⟩), ?_⟩
        exact HW7.out.2.2.2.trans (setRow_fr W7 w.heap.size _) (fun k hk e => by omega)
theorem frmNext_any (hg : Gl w) (h : FrIs w base F most s) (hlen : s.b.length ≤ 1099511627770) :
    Calls Tryd.prog 10 #[.pointer (some ⟨F, 0, none⟩)] w fun e w' => NextAt w w' base F most e (s.next most) := by
  cases he : s.err with
  | some q => rw [FrS.next_err most he]; exact next_err h q he
  | none => rw [FrS.next_none most he]; exact next_dec hg h he hlen
end
end Go.Proofs.YthlbcgaegaoanaaDoor.Cr

/- Small words of packets in memory, that the texts about frames and about codec share. No statement of the program. More of a frame's plain law: how many packets it tells. No statement of the program. a fault's code is never zero. No statement of the program. crierlaw4's told. No statement of the program. -/
import Derived.Test.YthlbcgaegaoanaaDoorMDec
import Derived.Test.YthlbcgaegaoanaaDoorMW
import Derived.Deep.MidRow
namespace Go.Proofs.YthlbcgaegaoanaaDoor.Cr
open Go Go.RowKit Go.Proofs.YthlbcgaegaoanaaDoorW.PrintWords Go.Proofs.YthlbcgaegaoanaaDoorW.PrintLast Go.Proofs.YthlbcgaegaoanaaDoorW.PrintMore Go.Proofs.YthlbcgaegaoanaaDoor.Kinds Go.Proofs.YthlbcgaegaoanaaDoor.Utf Go.Proofs.YthlbcgaegaoanaaDoor.Chk Go.Proofs.YthlbcgaegaoanaaDoor.Rdr
set_option linter.unusedVariables false
set_option linter.unusedSimpArgs false
theorem results_cell1 {P : Program} {fn : Func} {tmps : Array Value} {w : World} {k a : Nat} {t : TypeId} {g : Nat} {cs : Array Value} {d : TypeDesc} (hr : fn.results = #[.cell k t, .tmp a]) (hp : tmps.getD k undef = .pointer (some ⟨g, 0, none⟩)) (hg : w.heap[g]? = some (.cells cs t (0, 0)))
    (hu : P.underlying t = some d) (hd : (match d with | .struct _ | .array _ _ => true | _ => false) = true) (hi : (P.info? t).map (·.size) = some cs.size) : (results fn tmps).run P w = .ok (.tuple #[.agg cs, tmps.getD a undef]) w := by
  have h := run_loadVar_row w g t t cs (0, 0) d hg hu hd hi
  have hp' : tmps[k]?.getD undef = .pointer (some ⟨g, 0, none⟩) := by rw [← hp]; simp
  simp [results, hr, hp', asAddr, h]
def toldP (f : Option (Int × Int)) : Int × Int := f.getD (0, 0)
theorem flt3Size : (Tryd.prog.info? 30).map (·.size) = some 2 := by kernel_rfl
theorem pkt_szA {w : World} {p : Pkt} {cs : List Value} (h : kPkt.K w p cs) : (Tryd.prog.info? 43).map (·.size) = some cs.toArray.size := by
  rw [show cs.toArray.size = 25 from by rw [List.size_toArray, kPkt.K_len h]; rfl]; exact pktSize
theorem pkt_range {W : World} {B : Nat} {cs : List Value} (hB : W.heap[B]? = some (.cells cs.toArray 43 (0, 0))) : W.rangeAt B 0 cs := fun j v hv => by
  rw [Nat.zero_add, blk_cell hB j, List.getElem?_toArray]; exact hv
theorem pkt_szL {w : World} {p : Pkt} {cs : List Value} (h : kPkt.K w p cs) : (Tryd.prog.info? 43).map (·.size) = some cs.length := by
  rw [kPkt.K_len h]; exact pktSize
theorem C_lit8 (W : World) (xs : List Int) (hm : xs.length ≤ 9223372036854775807) : (Kd.int .u8).C (W.alloc (.cells (nums .u8 xs).toArray 5)) (some ⟨W.heap.size, 0, none⟩) xs.length xs := by
  have h : (Kd.int .u8).R 5 (W.alloc (.cells (nums .u8 xs).toArray 5)) 0 (fun _ => True) (.slice (some ⟨W.heap.size, 0, none⟩) xs.length xs.length) xs :=
    Kd.R_of_own (own_lit W 0 5 .u8 xs (Nat.zero_le _) hm) (fun _ _ => trivial)
  exact (Kd.R_reads' h).2.2
theorem pk_open {w : World} {base : Nat} {ok : Nat → Prop} {p : Pkt} {cs : List Value} (h : kPkt.M w base ok p cs) : (Tryd.prog.info? 43).map (·.size) = some cs.toArray.size ∧ noCells.size = cs.toArray.size ∧ cs.toArray.all (·.oneCell') = true ∧ cs.toArray[0]? = some (.int .i64 p.kind) := by
  refine ⟨pkt_szA (kPkt.K_of_M h), (show noCells.size = 25 from rfl).trans (by rw [List.size_toArray, kPkt.K_len (kPkt.K_of_M h)]; rfl), ?_, ?_⟩
  · rw [Array.all_eq_true_iff_forall_mem]
    intro u hu
    exact kPkt.K_one (kPkt.K_of_M h) u (by simpa using hu)
  · obtain ⟨vw, vp, vm, va, vc, vf, rfl, _⟩ := pkt_M h
    rfl
theorem ev_below {w w1 : World} {base : Nat} {ev : Value} {f : Option (Int × Int)} (h : EV w base ev f) (hb : Below w.heap.size w w1) : EV w1 base ev f := h.fr (Fr.of_below (fun _ => False) hb) (fun _ _ e => e.elim)
theorem lit_bytes {l : List Int} (h : l.all (fun x => decide (0 ≤ x) && decide (x ≤ 255)) = true) : Bytes l := fun x hx => by
  have := List.all_eq_true.1 h x hx
  simpa using this
theorem pk_new (w : World) (cs : List Value) : ((w.alloc (.cells noCells 43)).setRow w.heap.size cs.toArray).heap[w.heap.size]? = some (.cells cs.toArray 43 (0, 0)) ∧ Below w.heap.size w ((w.alloc (.cells noCells 43)).setRow w.heap.size cs.toArray) :=
  ⟨setRow_block (heap_alloc_new w _), setRow_below (below_alloc (Below.refl _ _) _) (Nat.le_refl _) _⟩
theorem eqFlt (d : Nat) (w : World) (x0 x1 y0 y1 : Int) : (Op.equalIn (d + 2) 30 (.agg #[.int .i64 x0, .int .i64 x1]) (.agg #[.int .i64 y0, .int .i64 y1])).run Tryd.prog w = .ok (x0 == y0 && (x1 == y1)) w := by
  refine eqA_of Tryd.underlying30 (by kernel_rfl) ?_
  refine eqf_cons (by rfl) (by go_simp; rfl) (by go_simp; rfl) (by go_simp) ?_
  exact eqf_last (by rfl) (by go_simp; rfl) (by go_simp; rfl) (by go_simp)
theorem wpList_load_midF {P : Program} {ops : Array Oper} {rest : List Oper} {op : Oper} {a : Act} {w : World} {Q : Exit → Act → World → Prop} (hw : Region.wanted op (yielded ops a.tmps) = true) (ty : TypeId) (x : Operand) (ho : op.op = .load ty x)
    (b o : Nat) (hx : a.eval x = .pointer (some ⟨b, o, none⟩)) (cs : List Value) (d : TypeDesc) (hc : w.rangeAt b o cs)
    (hu : P.underlying ty = some d) (hd : d.isRow = true) (hi : (P.info? ty).map (·.size) = some cs.length)
    (h : wpList P ops Q rest (a.put op.dst (.agg cs.toArray)) w) : wpList P ops Q (op :: rest) a w :=
  wpList_step fun _ hK => by
    simp only [hw, if_true]
    exact wp_load_mid ty x ho b o hx cs d hc hu hd hi (hK _ _ h)
end Go.Proofs.YthlbcgaegaoanaaDoor.Cr

namespace Go.Proofs.YthlbcgaegaoanaaDoor.Cr
open Go Go.RowKit Go.Proofs.YthlbcgaegaoanaaDoorW.PrintWords Go.Proofs.YthlbcgaegaoanaaDoorW.PrintLast Go.Proofs.YthlbcgaegaoanaaDoorW.PrintMore Go.Proofs.YthlbcgaegaoanaaDoor.Kinds Go.Proofs.YthlbcgaegaoanaaDoor.Utf Go.Proofs.YthlbcgaegaoanaaDoor.Chk Go.Proofs.YthlbcgaegaoanaaDoor.Rdr
set_option linter.unusedVariables false
set_option linter.unusedSimpArgs false
theorem FrS.all_step {most : Int} {s : FrS} (h : s.Ok) : (((s.next most).2.all most).1.length + (if (s.next most).1.ok then 1 else 0) = (s.all most).1.length) ∧ (s.next most).2.b.length ≤ s.b.length := by
  cases e : (s.next most).1.ok with
  | true =>
    have := (s.next_ok h most e []).2.2.2.2.1
    rw [FrS.all_ok h e]
    exact ⟨by simp, by omega⟩
  | false =>
    have h1 := FrS.all_put_no (most := most) h (m := []) e
    rw [FrS.put_nil, FrS.put_nil] at h1
    refine ⟨by rw [h1]; simp, ?_⟩
    cases hf : (s.next most).1.f with
    | some q => rw [(s.next_bad h most e hf []).2.1]; simp
    | none => rw [(s.next_need h most e hf).1]; exact Nat.le_refl _
theorem FrS.all_len {most : Int} : ∀ (k : Nat) {s : FrS}, s.Ok → s.b.length ≤ k → (s.all most).1.length ≤ s.b.length := by
  intro k
  induction k with
  | zero =>
    intro s h hk
    have hn : (s.next most).1.ok = false := by
      cases e : (s.next most).1.ok with
      | false => rfl
      | true => have := (s.next_ok h most e []).2.2.2.2.1; omega
    rw [FrS.all_no hn]; simp
  | succ k ih =>
    intro s h hk
    cases e : (s.next most).1.ok with
    | false => rw [FrS.all_no e]; simp
    | true =>
      have h1 := (s.next_ok h most e []).2.2.2.2.1
      have h2 := ih (h.next most) (by omega)
      rw [FrS.all_ok h e]
      simp only [List.length_cons]
      omega
end Go.Proofs.YthlbcgaegaoanaaDoor.Cr

namespace Go.Proofs.YthlbcgaegaoanaaDoor.Cr
open Go Go.RowKit Go.Proofs.YthlbcgaegaoanaaDoorW.PrintWords Go.Proofs.YthlbcgaegaoanaaDoorW.PrintLast Go.Proofs.YthlbcgaegaoanaaDoorW.PrintMore Go.Proofs.YthlbcgaegaoanaaDoor.Kinds Go.Proofs.YthlbcgaegaoanaaDoor.Utf Go.Proofs.YthlbcgaegaoanaaDoor.Chk Go.Proofs.YthlbcgaegaoanaaDoor.Rdr
set_option linter.unusedVariables false
set_option linter.unusedSimpArgs false
def NZ (f : Option (Int × Int)) : Prop := ∀ q, f = some q → q.2 ≠ 0
theorem NZ.none : NZ Option.none := fun q h => by cases h
theorem NZ.mk {a c : Int} (h : c ≠ 0) : NZ (some (a, c)) := fun q e => by injection e with e; subst e; exact h
section
variable {l : List Int} {a : Int} {f : Option (Int × Int)}
theorem nz_byte (h : NZ f) : NZ (rByte l a f).f := by
  unfold rByte
  repeat' split
  · exact h
  · exact NZ.none
  · exact NZ.mk (by decide)
theorem nz_num (h : NZ f) : NZ (rNum l a f).f := by
  unfold rNum
  repeat' split
  · exact h
  · exact NZ.none
  · exact NZ.mk (by decide)
theorem nz_data (h : NZ f) : NZ (rData l a f).f := by
  unfold rData
  repeat' split
  · exact h
  · exact NZ.none
  · exact NZ.mk (by decide)
  · exact NZ.mk (by decide)
theorem nz_rest (h : NZ f) : NZ (rRest l a f).f := by
  unfold rRest
  repeat' split
  · exact h
  · exact NZ.none
theorem nz_text (h : NZ f) : NZ (rText l a f).f := by
  unfold rText
  by_cases h1 : f.isSome = true
  · rw [if_pos h1]; exact h
  · rw [if_neg h1]
    by_cases h2 : a + 2 ≤ l.length
    · rw [if_pos h2]
      by_cases h3 : a + 2 + joinG ((l.drop a.toNat).take 2) ≤ l.length
      · rw [if_pos h3]
        by_cases h4 : (chk (strOfNums ((l.drop (a + 2).toNat).take (joinG ((l.drop a.toNat).take 2)).toNat))).2 = 0
        · rw [if_pos h4]; exact NZ.none
        · rw [if_neg h4]; exact NZ.mk h4
      · rw [if_neg h3]; exact NZ.mk (by decide)
    · rw [if_neg h2]; exact NZ.mk (by decide)
theorem nz_end (h : NZ f) : NZ (rEnd l a f) := by
  unfold rEnd
  repeat' split
  · exact h
  · exact NZ.mk (by decide)
  · exact NZ.none
theorem nz_fail {p c : Int} {bad : Option (Int × Int)} (hc : c ≠ 0) (h : NZ bad) : NZ (cFail p c f bad) := by
  unfold cFail
  split
  · exact NZ.mk hc
  · exact h
end
theorem nz_conn {l : List Int} {a : Int} {f : Option (Int × Int)} {p : Pkt} (h : NZ f) : NZ (cConn l a f p).f := by
  have h1 : NZ (cHead l a f p).f := by
    unfold cHead
    exact nz_text (nz_num (nz_byte (nz_byte (nz_text h))))
  have h2 : ∀ s : CS, NZ s.f → NZ (sWill l s).f := fun s hs => by
    unfold sWill
    split
    · exact nz_data (nz_text hs)
    · exact hs
  have h3 : ∀ s : CS, NZ s.f → NZ (sUser l s).f := fun s hs => by
    unfold sUser
    split
    · exact nz_text hs
    · exact hs
  have h4 : ∀ s : CS, NZ s.f → NZ (sPass l s).f := fun s hs => by
    unfold sPass
    split
    · exact nz_data hs
    · exact hs
  unfold cConn
  exact nz_end (h4 _ (h3 _ (h2 _ h1)))
theorem nz_cbad {l : List Int} {a : Int} {f bad : Option (Int × Int)} (h : NZ bad) : NZ (cBad l a f bad) := by
  unfold cBad
  dsimp only
  repeat' split
  · exact nz_fail (by decide) (nz_fail (by decide) h)
  · exact nz_fail (by decide) h
  · exact nz_fail (by decide) h
  · exact h
theorem nz_sub (l : List Int) (n : Int) : ∀ k (s : CS), NZ s.f → NZ (subG l n k s).f
  | 0, s, h => h
  | k + 1, s, h => by
    simp only [subG]
    split
    · exact nz_sub l n k _ (nz_byte (nz_text h))
    · exact h
theorem nz_sac (l : List Int) (n : Int) : ∀ k (s : CS), NZ s.f → NZ (sacG l n k s).f
  | 0, s, h => h
  | k + 1, s, h => by
    simp only [sacG]
    split
    · exact nz_sac l n k _ (nz_byte h)
    · exact h
theorem nz_uns (l : List Int) (n : Int) : ∀ k (s : CS), NZ s.f → NZ (unsG l n k s).f
  | 0, s, h => h
  | k + 1, s, h => by
    simp only [unsG]
    split
    · exact nz_uns l n k _ (nz_text h)
    · exact h
theorem nz_fields (l : List Int) (k fl : Int) : NZ (fFields l k fl).f ∧ NZ (fFields l k fl).bad := by
  unfold fFields
  repeat' split
  · exact ⟨nz_conn NZ.none, nz_cbad NZ.none⟩
  · unfold fConnack
    refine ⟨nz_end (nz_byte (nz_byte NZ.none)), ?_⟩
    dsimp only
    split
    · exact nz_fail (by decide) NZ.none
    · exact NZ.none
  · unfold fPublish
    refine ⟨nz_rest ?_, NZ.none⟩
    unfold sId
    split
    · exact nz_num (nz_text NZ.none)
    · exact nz_text NZ.none
  · exact ⟨nz_sub _ _ _ _ (nz_num NZ.none), NZ.none⟩
  · exact ⟨nz_sac _ _ _ _ (nz_num NZ.none), NZ.none⟩
  · exact ⟨nz_uns _ _ _ _ (nz_num NZ.none), NZ.none⟩
  · exact ⟨nz_end (nz_num NZ.none), NZ.none⟩
  · exact ⟨nz_end NZ.none, NZ.none⟩
theorem nz_headG (l : List Int) (most : Int) : ∀ k i n, NZ (headG l most k i n).2.2
  | 0, i, n => NZ.none
  | k + 1, i, n => by
    simp only [headG]
    repeat' split
    · exact NZ.none
    · exact NZ.mk (by decide)
    · exact nz_headG l most k _ _
    · exact NZ.mk (by decide)
    · exact NZ.none
theorem nz_head (l : List Int) (most : Int) : NZ (headP l most).2.2 := by
  unfold headP
  repeat' split
  · exact NZ.none
  · exact NZ.mk (by decide)
  · exact nz_headG _ _ _ _ _
  · exact NZ.mk (by decide)
theorem nz_decF (l : List Int) (h : Int × Int × Option (Int × Int)) (hh : NZ h.2.2) : NZ (decF l h).f := by
  unfold decF
  split
  · exact hh
  · split
    · exact NZ.none
    · have hf := nz_fields ((l.drop h.1.toNat).take h.2.1.toNat) (rd l 0 / 16) (rd l 0 % 16)
      dsimp only
      split
      · rename_i q hq
        refine NZ.mk ?_
        cases hb : (fFields ((l.drop h.1.toNat).take h.2.1.toNat) (rd l 0 / 16) (rd l 0 % 16)).bad with
        | some x => rw [hb] at hq hf; simp at hq; subst hq; exact hf.2 _ rfl
        | none => rw [hb] at hq; simp at hq; exact hf.1 _ hq
      · split
        · exact NZ.none
        · rename_i hn; exact NZ.mk hn
theorem decP_nz (l : List Int) (most : Int) : NZ (decP l most).f := nz_decF _ _ (nz_head _ _)
theorem FrS.nz_next {most : Int} {s : FrS} (h : NZ s.err) : NZ (s.next most).1.f ∧ NZ (s.next most).2.err := by
  cases e : s.err with
  | some x =>
    rw [FrS.next_err most e]
    rw [e] at h
    exact ⟨h, by rw [e]; exact h⟩
  | none =>
    rw [FrS.next_none most e]
    unfold nextF
    cases hf : (decP s.b most).f with
    | some q =>
      have := decP_nz s.b most q hf
      exact ⟨NZ.mk this, NZ.mk this⟩
    | none =>
      dsimp only
      split
      · exact ⟨NZ.none, by rw [e]; exact NZ.none⟩
      · exact ⟨NZ.none, NZ.none⟩
theorem FrS.nz_put {s : FrS} (h : NZ s.err) (l : List Int) : NZ (s.put l).err := by
  unfold FrS.put
  split
  · exact h
  · exact NZ.none
end Go.Proofs.YthlbcgaegaoanaaDoor.Cr

namespace Go.Proofs.YthlbcgaegaoanaaDoor.Cr
open Go Go.RowKit Go.Proofs.YthlbcgaegaoanaaDoorW.PrintWords Go.Proofs.YthlbcgaegaoanaaDoorW.PrintLast Go.Proofs.YthlbcgaegaoanaaDoorW.PrintMore Go.Proofs.YthlbcgaegaoanaaDoor.Kinds Go.Proofs.YthlbcgaegaoanaaDoor.Utf Go.Proofs.YthlbcgaegaoanaaDoor.Chk Go.Proofs.YthlbcgaegaoanaaDoor.Rdr
attribute [local go_sem] max2_int min2_int max_two min_two
set_option linter.unusedVariables false
set_option linter.unusedSimpArgs false
set_option maxRecDepth 100000 in
theorem told4_any {w : World} {base : Nat} {ev : Value} {f : Option (Int × Int)} (h : EV w base ev f) (hz : NZ f) :
    Calls Tryd.prog 11 #[ev] w fun e w' => e = .returned (.tuple #[.agg #[.int .i64 (toldP f).1, .int .i64 (toldP f).2], .bool true]) ∧ Below w.heap.size w w' := by
  cases f with
  | none =>
    have hev : ev = .nilIface := h
    subst hev
    go_enter Tryd.func11, Tryd.ntmps11
    go_wp2_with fail
    refine bodyPost_ret (results_cell1 Tryd.results11 rfl (heap_alloc_new w _) Tryd.underlying30 rfl flt3Size) rfl ⟨rfl, below_alloc (Below.refl _ _) _⟩
  | some q =>
    obtain ⟨q1, q2⟩ := q
    have hq : q2 ≠ 0 := hz _ rfl
    obtain ⟨F, rfl, hF, hb⟩ := h
    have tq : (q2 == 0) = false := beq_eq_false_iff_ne.2 hq
    have y0 : ∀ o, (w.alloc o).cell? ⟨F, 0, none⟩ = some (.int .i64 q1) := fun o => blk_cell ((heap_alloc_old w o (blk_lt hF)).trans hF) 0
    have y1 : ∀ o, (w.alloc o).cell? ⟨F, 1, none⟩ = some (.int .i64 q2) := fun o => blk_cell ((heap_alloc_old w o (blk_lt hF)).trans hF) 1
    have hta : ∀ w : World, (Instr.typeAssert (.iface 50 (.pointer (some ⟨F, 0, none⟩))) 45 50 true).run Tryd.prog w = .ok (.tuple #[.pointer (some ⟨F, 0, none⟩), .bool true]) w := fun _ => by kernel_rfl
    clear hF hb hz hq
    go_enter Tryd.func11, Tryd.ntmps11
    go_upto_region 6 with fail
    refine start_ (n := 11) (S := fun w' => w'.cell? ⟨F, 0, none⟩ = some (.int .i64 q1) ∧ w'.cell? ⟨F, 1, none⟩ = some (.int .i64 q2)) (ds := [9]) #[false, false, false, false, false, false, false, false, false, false, false] (by kernel_rfl) rfl rfl ⟨(y0 _), (y1 _)⟩ (fun hHeld => ?_)
    refine pure_ (i := 0) (N := some 28) (v := ?_) (a' := ?_) #[true, false, false, false, false, false, false, false, false, false, false] rfl rfl (by kernel_rfl) (fun _ _ _ h => h) (Or.inl ⟨by rfl, ?_⟩) ?_ ?_
    rotate_left
    · intro w'
      go_simp
      with_reducible rfl
    rotate_left
    · simp only [Act.put, List.setIfInBounds_toArray, List.set_cons_zero, List.set_cons_succ, i64_w, i32_w]
      rfl
    refine pure_ (i := 1) (N := some 29) (v := ?_) (a' := ?_) #[true, true, false, false, false, false, false, false, false, false, false] rfl rfl (by kernel_rfl) (fun _ _ _ h => h) (Or.inl ⟨by rfl, ?_⟩) ?_ ?_
    rotate_left
    · intro w'
      go_simp
      with_reducible rfl
    rotate_left
    · simp only [Act.put, List.setIfInBounds_toArray, List.set_cons_zero, List.set_cons_succ, i64_w, i32_w]
      rfl
    refine pure_ (i := 2) (N := some 30) (v := ?_) (a' := ?_) #[true, true, true, false, false, false, false, false, false, false, false] rfl rfl (by kernel_rfl) (fun _ _ _ h => h) (Or.inl ⟨by rfl, ?_⟩) ?_ ?_
    rotate_left
    · intro w'
      go_simp
      with_reducible rfl
    rotate_left
    · simp only [Act.put, List.setIfInBounds_toArray, List.set_cons_zero, List.set_cons_succ, i64_w, i32_w]
      rfl
    refine pure_ (i := 4) (N := some 32) (v := ?_) (a' := ?_) #[true, true, true, false, true, false, false, false, false, false, false] rfl rfl (by kernel_rfl) (fun _ _ _ h => h) (Or.inl ⟨by rfl, ?_⟩) ?_ ?_
    rotate_left
    · intro w'
      go_simp
      with_reducible rfl
    rotate_left
    · simp only [Act.put, List.setIfInBounds_toArray, List.set_cons_zero, List.set_cons_succ, i64_w, i32_w]
      rfl
    refine pure_ (i := 5) (N := some 33) (v := ?_) (a' := ?_) #[true, true, true, false, true, true, false, false, false, false, false] rfl rfl (by kernel_rfl) (fun _ _ _ h => h) (Or.inl ⟨by rfl, ?_⟩) ?_ ?_
    rotate_left
    · intro w'
      go_simp
      with_reducible rfl
    rotate_left
    · simp only [Act.put, List.setIfInBounds_toArray, List.set_cons_zero, List.set_cons_succ, i64_w, i32_w]
      rfl
    refine pure_ (i := 6) (N := some 34) (v := ?_) (a' := ?_) #[true, true, true, false, true, true, true, false, false, false, false] rfl rfl (by kernel_rfl) (fun _ _ _ h => h) (Or.inl ⟨by rfl, ?_⟩) ?_ ?_
    rotate_left
    · intro w'
      go_simp
      with_reducible rfl
    rotate_left
    · simp only [Act.put, List.setIfInBounds_toArray, List.set_cons_zero, List.set_cons_succ, i64_w, i32_w]
      rfl
    refine take_ (i := 3) (N := some 31) (v := ?_) (a' := ?_) #[true, true, true, true, true, true, true, false, false, false, false] rfl rfl (by kernel_rfl) (fun _ _ _ h => h) (Or.inl ⟨by rfl, ?_⟩) hHeld ?_ ?_
    rotate_left
    · rintro w' ⟨s0, s1⟩
      go_simp
      with_reducible rfl
    rotate_left
    · simp only [Act.put, List.setIfInBounds_toArray, List.set_cons_zero, List.set_cons_succ, i64_w, i32_w]
      rfl
    refine take_ (i := 7) (N := some 35) (v := ?_) (a' := ?_) #[true, true, true, true, true, true, true, true, false, false, false] rfl rfl (by kernel_rfl) (fun _ _ _ h => h) (Or.inl ⟨by rfl, ?_⟩) hHeld ?_ ?_
    rotate_left
    · rintro w' ⟨s0, s1⟩
      go_simp
      with_reducible rfl
    rotate_left
    · simp only [Act.put, List.setIfInBounds_toArray, List.set_cons_zero, List.set_cons_succ, i64_w, i32_w]
      rfl
    refine pure_ (i := 8) (N := some 36) (v := ?_) (a' := ?_) #[true, true, true, true, true, true, true, true, true, false, false] rfl rfl (by kernel_rfl) (fun _ _ _ h => h) (Or.inl ⟨by rfl, ?_⟩) ?_ ?_
    rotate_left
    · intro w'
      go_simp
      with_reducible rfl
    rotate_left
    · simp only [Act.put, List.setIfInBounds_toArray, List.set_cons_zero, List.set_cons_succ, i64_w, i32_w]
      rfl
    refine last_ (i := 9) (N := none) #[true, true, true, true, true, true, true, true, true, true, false] rfl rfl (by kernel_rfl) (by decide) (fun K hK => ?_)
    refine skip_ (w1 := ?_) (by rfl) rfl ?_ ?_
    rotate_left
    · go_simp
      rfl
    refine hK.out _ _ ?_
    clear hK K
    refine pure_ (i := 10) (N := some 3) (v := ?_) (a' := ?_) #[true, true, true, true, true, true, true, true, true, true, true] rfl rfl (by kernel_rfl) (fun _ _ _ h => h) (Or.inl ⟨by rfl, ?_⟩) ?_ ?_
    rotate_left
    · intro w'
      go_simp
      with_reducible rfl
    rotate_left
    · simp only [Act.put, List.setIfInBounds_toArray, List.set_cons_zero, List.set_cons_succ, i64_w, i32_w]
      rfl
    refine done_ (by kernel_rfl) ?_
    go_wp2_with fail
    refine bodyPost_ret (results_cell1 Tryd.results11 rfl (heap_alloc_new w (.cells #[.int .i64 q1, .int .i64 q2] 30)) Tryd.underlying30 rfl flt3Size) rfl ⟨rfl, below_drew (below_alloc (Below.refl _ _) _)⟩
end Go.Proofs.YthlbcgaegaoanaaDoor.Cr

/- slices.Clone and slices.Delete of what is under way. No statement of the program. -/
import Derived.Test.YtjccmlmkcjmicaaWinSend2
import Derived.Lib.SliceRun
namespace Go.Proofs.Ytjccmlmkcjmicaa.Win
open Go Go.RowKit Go.Maps Go.MapKept Go.ChangeMaps Go.Proofs.YtjccmlmkcjmicaaW.PrintWords Go.Proofs.Ytjccmlmkcjmicaa.Kinds
set_option linter.unusedVariables false
set_option linter.unusedSimpArgs false

theorem R_empty (w : World) (base : Nat) (hb : base ≤ w.heap.size) : kFlt.R 112 (w.alloc (.cells #[] 112)) base (fun k => k = w.heap.size) (.slice (some ⟨w.heap.size, 0, none⟩) 0 0) [] :=
  ⟨fun k hk => by simp [Value.ownBlock] at hk; exact hk.symm, [], ⟨rfl, .inr ⟨w.heap.size, 0, #[], rfl, hb, heap_alloc_new w _, Nat.le_refl _, by decide, rfl, rfl⟩⟩, by simp, fun j p h => by simp at h⟩

set_option maxRecDepth 100000 in
set_option maxHeartbeats 1000000 in
theorem clone_any {w : World} {base g n c : Nat} {ok : Nat → Prop} {fl : List Flt} (h : kFlt.R 112 w base ok (.slice (some ⟨g, 0, none⟩) n c) fl) (hbw : base ≤ w.heap.size) (hl : fl.length ≤ 65536) (hn0 : 0 < n) :
    Calls Try.prog 74 #[.slice (some ⟨g, 0, none⟩) n c] w fun e w' => ∃ g1 c1, e = .returned (.slice (some ⟨g1, 0, none⟩) n c1) ∧
      kFlt.R 112 w' base (fun k => (ok k ∧ k ≠ g) ∨ w.heap.size ≤ k) (.slice (some ⟨g1, 0, none⟩) n c1) fl ∧ w.heap.size ≤ g1 ∧ Below w.heap.size w w' := by
  obtain ⟨hnl, hnc, _⟩ := Kd.R_reads' h
  have q22 : ∀ (w : World) (a : Option Addr) (n c n' c' : Nat), (binOp .eql 101 (.slice a n c) (.slice none n' c')).run Try.prog w = .ok (.bool a.isNone) w := fun w a n c n' c' => Lib.run_eql_slice_nil w _ _ a n c n' c' Try.underlying101
  obtain ⟨hok, hrow⟩ := h
  obtain ⟨A0, c0, hA0, hc0, hRR⟩ := OwnRow.reads hrow
  injection hA0 with hA0 hA1 hA2
  subst hA0
  have HRR := Aside0.mk hRR
  have HL := Aside0.mk (show n = fl.length from hnl)
  clear hok hrow hnl hA1 hA2 hRR
  go_enter Try.func74, Try.ntmps74
  go_wp2_with (at_builtin; refine Kd.R_append_rows kFlt (Rr := kFlt.M w base (fun k => ok k ∧ some k ≠ (Value.slice (some ⟨g, 0, none⟩) n c).ownBlock)) (w0 := w) base rfl _ _ 101 112 (.agg noF) 72 rfl Try.underlying101 infoFlt rfl (by decide) (by omega) (.slice (some ⟨w.heap.size, 0, none⟩) 0 0) [] fl (some ⟨g, 0, none⟩) n c (fun k => (ok k ∧ k ≠ g) ∨ w.heap.size ≤ k) (fun k => (ok k ∧ k ≠ g) ∧ k < w.heap.size) rfl rfl ?HO ?HR ?hKM ?hokp ?hfresh ?HB ?hbase ?hl ?_)
  case HO => exact Kd.R_mono (R_empty w base hbw) (fun k hk => .inr (by omega))
  case HR => rw [HL.out]; exact ReadsRow.imp_ HRR.out (below_alloc (Below.refl _ _) _) (fun _ _ h => h)
  case hKM => exact fun x cs hM => kFlt.M_move (fun k hk => heap_alloc_old _ _ hk.2) (kFlt.M_mono (fun k hk => ⟨⟨hk.1.1, fun e => hk.1.2 (by rw [e]; rfl)⟩, hk.2.2.1⟩) (kFlt.M_bound hM))
  case hokp => exact fun k hk => ⟨.inl hk.1, fun e => by simp [Value.ownBlock] at e; omega⟩
  case hfresh => exact fun k hk => .inr (by rw [World.size_alloc] at hk; omega)
  case HB => exact (Below.refl base w).alloc hbw _
  case hbase => rw [World.size_alloc]; omega
  case hl => have := HL.out; simp; omega
  intro v1 w1 hR hb hg hat
  obtain ⟨A1, c1, he⟩ := Kd.R_slice hR
  have hfl : 0 < fl.length := by have := HL.out; omega
  obtain ⟨g1, cap, he1, hbg, hlt, hcells⟩ := Kd.R_form hR (by simpa using hfl)
  subst he1
  have hg1 : w.heap.size ≤ g1 := by
    rcases hat with hat | ⟨b, hb1, hb2⟩
    · simp [Value.ownBlock] at hat; omega
    · simp [Value.ownBlock] at hb1; subst hb1; simpa using Nat.le_of_succ_le hb2
  have hB : Below w.heap.size w w1 := ((Below.refl w.heap.size w).alloc (Nat.le_refl _) _).grown hg (by simp) (fun k hk => by simp [Value.ownBlock] at hk; omega)
  have HF := Aside0.mk (And.intro hR (And.intro hg1 hB))
  clear hR hb hg hat he hcells hlt hbg hg1 hB
  go_wp2
  go_ret
  refine ⟨g1, cap, ?_, ?_, HF.out.2.1, HF.out.2.2⟩
  · rw [HL.out]; rfl
  · rw [HL.out]; exact HF.out.1

/-! ### clear of one struct -/
theorem range_get (z : Array Value) (h : 0 < z.size) : (Builtin.zeroCells z 1).toList = z.toList := by
  apply List.ext_getElem
  · simp [Builtin.zeroCells]
  · intro i h1 h2
    have hi : i < z.size := by simpa using h2
    simp [Builtin.zeroCells, Nat.mod_eq_of_lt hi, hi]
theorem run_clear_one {P : Program} (w : World) (t e ty : TypeId) (z : Value) (ht : P.underlying t = some (.slice e)) (hv : ∀ w, (zeroValue e).run P w = .ok z w) (h0 : 0 < z.cells.size) (h1 : ∀ v ∈ z.cells.toList, v.oneCell' = true) (b o c : Nat)
    (hc : ∀ j, j < z.cells.toList.length → (w.cell? ⟨b, o + j, none⟩).isSome = true) (hf : ∀ j, j < z.cells.toList.length → w.frozen? ⟨b, o + j, none⟩ = false) :
    (Builtin.clear_ #[t] ty #[.slice (some ⟨b, o, none⟩) 1 c]).run P w = .ok (.tuple #[]) (w.setCells b o z.cells.toList) := by
  have hst := run_storeCells_cells (P := P) b o z.cells.toList 0 w (by simpa using hc) (by simpa using hf) h1
  simp only [Nat.add_zero] at hst
  simp [Builtin.clear_, run_underlying ht, hv, range_get _ h0, hst]
/-- cells behind what a row holds are written -/
theorem R_behind {w : World} {base g n c o : Nat} {ok : Nat → Prop} {fl : List Flt} (h : kFlt.R 112 w base ok (.slice (some ⟨g, 0, none⟩) n c) fl) (news : List Value) (ho : n * 6 ≤ o) (hfit : o + news.length ≤ c * 6) :
    kFlt.R 112 (w.setCells g o news) base ok (.slice (some ⟨g, 0, none⟩) n c) fl ∧ w.grownBy (w.setCells g o news) (some g) := by
  have hn : n = fl.length := (Kd.R_reads' h).1
  obtain ⟨hok, inner, hown, hr⟩ := h
  rcases hown.2 with ⟨hv, _⟩ | ⟨g', cap', cur, hv, hb, hh, hnc, hcm, hcs, htake⟩
  · cases hv
  injection hv with ha _ hc
  injection ha with ha
  injection ha with hg
  subst hg; subst hc
  have hcs' : cur.size = c * 6 := hcs
  obtain ⟨cur', h3, h4, h5⟩ := setCells_row news o w cur hh (by omega)
  obtain ⟨s1, s2, s3, s4⟩ := setCells_same g news o w
  have hfar : ∀ k', k' ≠ g → (w.setCells g o news).heap[k']? = w.heap[k']? := fun k' hk' => setCells_far news _ k' hk'
  refine ⟨⟨hok, inner, ⟨hown.1, .inr ⟨g, c, cur', by rw [hn], hb, h3, hnc, hcm, by rw [h4, hcs], ?_⟩⟩, hr.imp_ (fun p q hp => kFlt.M_move (fun k hk => hfar k (fun e => hk.2 (by rw [e]; simp [Value.ownBlock]))) hp)⟩, ⟨s1, s2, s3, by rw [s4]; exact Nat.le_refl _, fun k _ hk => hfar k (fun e => hk (by rw [e]))⟩⟩
  rw [h5, ← htake]
  have e6 : kFlt.sz = 6 := rfl
  rw [e6, ← hn]
  rw [List.append_assoc, List.take_append_of_le_length (by rw [List.length_take, Array.length_toList]; omega), List.take_take, Nat.min_eq_left ho]

set_option maxRecDepth 100000 in
set_option maxHeartbeats 2000000 in
theorem delete_any {w : World} {base g n c k : Nat} {ok : Nat → Prop} {fl : List Flt} (h : kFlt.R 112 w base ok (.slice (some ⟨g, 0, none⟩) n c) fl) (hbw : base ≤ w.heap.size) (hl : fl.length ≤ 65536) (hk : k < n) :
    Calls Try.prog 73 #[.slice (some ⟨g, 0, none⟩) n c, .int .i64 k, .int .i64 ((k : Int) + 1)] w fun e w' => e = .returned (.slice (some ⟨g, 0, none⟩) (n - 1) c) ∧
      kFlt.R 112 w' base ok (.slice (some ⟨g, 0, none⟩) (n - 1) c) (fl.eraseIdx k) ∧ w.grownBy w' (some g) := by
  obtain ⟨hnl, hnc, _⟩ := Kd.R_reads' h
  have H := Aside0.mk h
  have hkI : (k : Int) < n := by omega
  have hncI : (n : Int) ≤ c := by omega
  have hn6 : (n : Int) ≤ 65536 := by omega
  have hk0 : (0 : Int) ≤ (k : Int) := by omega
  have hkc : (k : Int) ≤ c := by omega
  have hk1 : (0 : Int) ≤ (k : Int) + 1 := by omega
  have hk1n : (k : Int) + 1 ≤ n := by omega
  have hk1c : (k : Int) + 1 ≤ c := by omega
  have HNL := Aside0.mk hnl
  have HK := Aside0.mk hk
  clear h hnl hk
  go_enter Try.func73, Try.ntmps73
  have hne : ((k : Int) == (k : Int) + 1) = false := by simp; omega
  go_wp2_with fail
  have hA : (if c = k + 1 then some (⟨g, 0, none⟩ : Addr) else some ⟨g, (k + 1) * 6, none⟩) = if c = k + 1 then some ⟨g, 0, none⟩ else (some (⟨g, 0, none⟩ : Addr)).map (·.add ((k + 1) * kFlt.sz)) := by
    split
    · rfl
    · rw [Option.map_some, show kFlt.sz = 6 from rfl]; simp [Addr.add]
  have HA := Aside0.mk hA
  clear hA
  go_region_law
    (refine Kd.R_delete_step kFlt (w0 := w) base (by rfl) (.tmp 22) (.tmp 25) 101 112 (by rfl) Try.underlying101 fltSize (g := g) (n := n) (c := c) (k := k) (m := n - (k + 1)) (xs := fl) (ok := ok) (by rfl) (by rfl) HA.out (by rfl) (Kd.R_drew H.out) HK.out ((Below.refl _ _).drew) hbw ?_
     intro w1 hR hb hg
     have HR1 := Aside0.mk hR
     have HG1 := Aside0.mk hg
     clear hR hb hg)
  have hbh := R_behind HR1.out (o := (n - 1) * 6) noF.toList (Nat.le_refl _) (by have := HK.out; simp [noF]; omega)
  have hcl : ∀ ty cc, (Builtin.clear_ #[101] ty #[.slice (some ⟨g, (n - 1) * 6, none⟩) 1 cc]).run Try.prog w1 = .ok (.tuple #[]) (w1.setCells g ((n - 1) * 6) noF.toList) := fun ty cc => by
    obtain ⟨_, inner, hown, _⟩ := HR1.out
    rcases hown.2 with ⟨hv, _⟩ | ⟨g', cap', cur, hv, hb, hh, hnc', hcm, hcs, htake⟩
    · cases hv
    injection hv with ha _ hc'
    injection ha with ha
    injection ha with hg'
    subst hg'; subst hc'
    have hcs' : cur.size = c * 6 := hcs
    have hk := HK.out
    exact run_clear_one w1 101 112 ty (.agg noF) Try.underlying101 (fun w => by kernel_rfl) (by decide) (by decide) g ((n - 1) * 6) cc (fun j hj => by
      have h6 : j < 6 := hj
      have hlt : (n - 1) * 6 + j < cur.size := by omega
      rw [cell_of_row w1 g _ cur 112 (0, 0) hh, Array.getElem?_eq_getElem hlt]; rfl) (fun j _ => blk_frozen hh _)
  have HBH := Aside0.mk hbh
  have hn1 : (0 : Int) ≤ ((n - 1 : Nat) : Int) := by omega
  have hn2 : ((n - 1 : Nat) : Int) ≤ n := by omega
  have hn3 : n - (n - 1) = 1 := by have := HK.out; omega
  have hnne : ¬ c = n - 1 := by have := HK.out; omega
  clear hbh
  go_wp2_with fail
  all_goals
    have h1 := HG1.out
    have h2 := HBH.out.2
    go_ret
    refine ⟨rfl, by first | exact HBH.out.1 | (have h3 := HBH.out.1; rw [show c = k + 1 by assumption] at h3; exact h3), ⟨h2.os.trans h1.os, h2.tape.trans h1.tape, h2.output.trans h1.output, Nat.le_trans h1.size h2.size, fun j hj hne => (h2.block j (Nat.lt_of_lt_of_le hj h1.size) hne).trans (h1.block j hj hne)⟩⟩
end Go.Proofs.Ytjccmlmkcjmicaa.Win

/- A window in memory, and the walks of its small functions: New, own, sendable, Online, Flying, Waiting, Down. No statement of the program. -/
import Derived.Test.YtjccmlmkcjmicaaKinds
import Derived.Test.YtjccmlmkcjmicaaWMore
import Derived.Maps.OwnOps
import Derived.Maps.Views
import Derived.Deep.LoopGhost
import Derived.WalkLawsBesides
namespace Go.Proofs.Ytjccmlmkcjmicaa.Win
attribute [local go_sem] Go.Proofs.YtjccmlmkcjmicaaW.PrintMore.max2_int Go.Proofs.YtjccmlmkcjmicaaW.PrintMore.min2_int Go.Proofs.YtjccmlmkcjmicaaW.PrintMore.max_two Go.Proofs.YtjccmlmkcjmicaaW.PrintMore.min_two
open Go Go.RowKit Go.Maps Go.MapKept Go.ChangeMaps Go.Proofs.YtjccmlmkcjmicaaW.PrintWords Go.Proofs.Ytjccmlmkcjmicaa.Kinds
set_option linter.unusedVariables false
set_option linter.unusedSimpArgs false

theorem infoU8 : (Try.prog.info? 5).map (fun i => (i.zero, i.size, i.bytes)) = some (some (.int .u8 0), 1, 1) := by kernel_rfl
theorem infoMsg : (Try.prog.info? 64).map (fun i => (i.zero, i.size, i.bytes)) = some (some (.agg #[.string ⟨#[]⟩, .slice none 0 0, .int .i64 0, .bool false]), 4, 56) := by kernel_rfl
theorem infoFlt : (Try.prog.info? 112).map (fun i => (i.zero, i.size, i.bytes)) = some (some (.agg #[.int .i64 0, .string ⟨#[]⟩, .slice none 0 0, .int .i64 0, .bool false, .bool false]), 6, 72) := by kernel_rfl

/-- A window: its bounds, the number given last, what is under way, what waits, the numbers that are reserved (a map's datum), online. -/
structure WS where
  window : Int
  queue : Int
  last : Int
  flights : List Flt
  waits : List Msg
  D : DataW Unit
  online : Bool
def winCells (s : WS) (vf vw : Value) (bm : Nat) : Array Value := #[.int .i64 s.window, .int .i64 s.queue, .int .i64 s.last, vf, vw, .map (some bm), .bool s.online]
/-- bounds that hold of every window -/
structure WOk (s : WS) : Prop where
  w1 : 1 ≤ s.window
  w2 : s.window ≤ 65535
  q1 : 0 ≤ s.queue
  q2 : s.queue ≤ 65536
  l1 : 0 ≤ s.last
  l2 : s.last ≤ 65535
  fl : s.flights.length ≤ 65536
  wl : s.waits.length ≤ 65536
/-- The window lies at block B; its blocks are among ok. -/
structure WinAt (w : World) (base : Nat) (ok : Nat → Prop) (B : Nat) (s : WS) (vf vw : Value) (bm : Nat) : Prop where
  okB : ok B
  okM : ok bm
  baseB : base ≤ B
  baseM : base ≤ bm
  blk : w.heap[B]? = some (.cells (winCells s vf vw bm) 103 (0, 0))
  flights : kFlt.R 112 w base ok vf s.flights
  waits : kMsg.Q 64 w base ok vw s.waits
  map : w.ownsMap Try.prog 3 (unitElem (H := Unit)) bm (Maps.size s.D) s.D
def WinAt' (w : World) (base : Nat) (ok : Nat → Prop) (B : Nat) (s : WS) : Prop := ∃ vf vw bm, WinAt w base ok B s vf vw bm

theorem map_tight {w : World} {b n : Nat} {D : DataW Unit} (h : w.ownsMap Try.prog 3 (unitElem (H := Unit)) b n D) : w.ownsMap Try.prog 3 (unitElem (H := Unit)) b (Maps.size D) D := by
  obtain ⟨es, clock, hb, F, hs, rfl⟩ := h
  exact ⟨es, clock, hb, F, by simp [Maps.size, length_sorted], rfl⟩
theorem WinAt.fr {w w1 : World} {base B bm : Nat} {ok ok' : Nat → Prop} {s : WS} {vf vw : Value} (h : WinAt w base ok B s vf vw bm) (hf : Fr ok' w w1) (hd : ∀ k, ok k → ¬ ok' k) : WinAt w1 base ok B s vf vw bm := by
  refine ⟨h.okB, h.okM, h.baseB, h.baseM, (hf.block B (blk_lt h.blk) (hd B h.okB)).trans h.blk, R_fr h.flights hf hd, Q_fr h.waits hf hd, ?_⟩
  obtain ⟨es, clock, hb, r⟩ := h.map
  exact ⟨es, clock, (hf.block bm (Array.getElem?_eq_some_iff.1 hb).1 (hd bm h.okM)).trans hb, r⟩
theorem WinAt.below {w w1 : World} {base B bm : Nat} {ok : Nat → Prop} {s : WS} {vf vw : Value} (h : WinAt w base ok B s vf vw bm) (hb : Below w.heap.size w w1) : WinAt w1 base ok B s vf vw bm :=
  h.fr (Fr.of_below (fun _ => False) hb) (fun _ _ e => e)
theorem WinAt.mono {w : World} {base B bm : Nat} {ok ok' : Nat → Prop} {s : WS} {vf vw : Value} (h : WinAt w base ok B s vf vw bm) (hk : ∀ k, ok k → ok' k) : WinAt w base ok' B s vf vw bm :=
  ⟨hk _ h.okB, hk _ h.okM, h.baseB, h.baseM, h.blk, Kd.R_mono h.flights hk, Kd.Q_mono h.waits hk, h.map⟩
theorem WinAt'.below {w w1 : World} {base B : Nat} {ok : Nat → Prop} {s : WS} (h : WinAt' w base ok B s) (hb : Below w.heap.size w w1) : WinAt' w1 base ok B s := by
  obtain ⟨vf, vw, bm, h⟩ := h; exact ⟨vf, vw, bm, h.below hb⟩
theorem WinAt'.fr {w w1 : World} {base B : Nat} {ok ok' : Nat → Prop} {s : WS} (h : WinAt' w base ok B s) (hf : Fr ok' w w1) (hd : ∀ k, ok k → ¬ ok' k) : WinAt' w1 base ok B s := by
  obtain ⟨vf, vw, bm, h⟩ := h; exact ⟨vf, vw, bm, h.fr hf hd⟩
theorem WinAt'.mono {w : World} {base B : Nat} {ok ok' : Nat → Prop} {s : WS} (h : WinAt' w base ok B s) (hk : ∀ k, ok k → ok' k) : WinAt' w base ok' B s := by
  obtain ⟨vf, vw, bm, h⟩ := h; exact ⟨vf, vw, bm, h.mono hk⟩

/-! ### the small functions -/
theorem C_int_reads {w : World} {k : IntKind} {A : Option Addr} {n : Nat} {xs : List Int} (h : (Kd.int k).C w A n xs) : ReadsInt w k A n xs := Kd.reads_of_C (d := (0 : Int)) h
theorem R_int_of_own {w : World} {base : Nat} {k : IntKind} {e : TypeId} {ok : Nat → Prop} {v : Value} {xs : List Int} (h : w.ownsRow base e 1 v xs.length (nums k xs)) (hok : ∀ b, v.ownBlock = some b → ok b) : (Kd.int k).R e w base ok v xs := Kd.R_of_own h hok

set_option maxRecDepth 100000 in
theorem own_any (m : Msg) (A : Option Addr) (c : Nat) (w : World) (hr : (Kd.int .u8).C w A m.payload.length m.payload) (hl : m.payload.length ≤ 1099511627776) :
    Calls Try.prog 65 #[.agg #[.string m.topic, .slice A m.payload.length c, .int .i64 m.qos, .bool m.retain]] w fun e w' => ∃ A' c', e = .returned (.agg #[.string m.topic, .slice A' m.payload.length c', .int .i64 m.qos, .bool m.retain]) ∧
      (Kd.int .u8).R 5 w' w.heap.size (fun k => w.heap.size ≤ k) (.slice A' m.payload.length c') m.payload ∧ Below w.heap.size w w' := by
  have HR := Aside0.mk (C_int_reads hr)
  clear hr
  obtain ⟨t, p, q, r⟩ := m
  dsimp only at *
  go_enter Try.func65, Try.ntmps65
  go_wp2_with (at_builtin; refine print_append_row (w0 := w) w.heap.size rfl (.const (.slice none 0 0)) (.tmp 4) 23 5 .u8 1 rfl Try.underlying23 infoU8 (by omega) (.slice none 0 0) [] p A p.length c rfl rfl ?aO ?aR ?aB ?aS ?aL ?_)
  case aO => exact own_nil _ _ _ _
  case aR => exact HR.out.below (((Below.refl _ _).alloc (Nat.le_refl _) _).alloc (by simp) _)
  case aB => exact ((Below.refl _ _).alloc (Nat.le_refl _) _).alloc (by simp) _
  case aS => simp; omega
  case aL => simp; omega
  intro v w1 hown hb hg hat
  obtain ⟨A', c', he⟩ := own_slice hown
  subst he
  have B1 : w1.heap[w.heap.size]? = some (.cells #[.string t, .slice A p.length c, .int .i64 q, .bool r] 64 (0, 0)) := by
    rw [hg.block w.heap.size (by simp; omega) (by simp [Value.ownBlock]), show _ = (w.alloc _).heap[w.heap.size]? from heap_alloc_old _ _ (by simp)]; exact heap_alloc_new w _
  have B2 : w1.heap[w.heap.size + 1]? = some (.cells #[.string ⟨#[]⟩, .slice none 0 0, .int .i64 0, .bool false] 64 (0, 0)) := by
    rw [hg.block (w.heap.size + 1) (by simp) (by simp [Value.ownBlock])]
    have := heap_alloc_new (w.alloc (.cells #[.string t, .slice A p.length c, .int .i64 q, .bool r] 64)) (.cells #[.string ⟨#[]⟩, .slice none 0 0, .int .i64 0, .bool false] 64)
    simpa using this
  have x0 : w1.cell? ⟨w.heap.size, 0, none⟩ = some (.string t) := blk_cell B1 0
  have x1 : w1.cell? ⟨w.heap.size, 1, none⟩ = some (.slice A p.length c) := blk_cell B1 1
  have x2 : w1.cell? ⟨w.heap.size, 2, none⟩ = some (.int .i64 q) := blk_cell B1 2
  have x3 : w1.cell? ⟨w.heap.size, 3, none⟩ = some (.bool r) := blk_cell B1 3
  have xf := blk_frozen B1 1
  have y0 : w1.cell? ⟨w.heap.size + 1, 0, none⟩ = some (.string ⟨#[]⟩) := blk_cell B2 0
  have y1 : w1.cell? ⟨w.heap.size + 1, 1, none⟩ = some (.slice none 0 0) := blk_cell B2 1
  have y2 : w1.cell? ⟨w.heap.size + 1, 2, none⟩ = some (.int .i64 0) := blk_cell B2 2
  have y3 : w1.cell? ⟨w.heap.size + 1, 3, none⟩ = some (.bool false) := blk_cell B2 3
  have yf : ∀ j, w1.frozen? ⟨w.heap.size + 1, j, none⟩ = false := fun j => blk_frozen B2 j
  have HO := Aside0.mk hown
  have HB := Aside0.mk hb
  have HA := Aside0.mk (show ∀ b, (Value.slice A' p.length c').ownBlock = some b → w.heap.size + 1 + 1 ≤ b from fun b hb => by
    rcases hat with hat | ⟨b', hb', hl'⟩
    · rw [hat] at hb; cases hb
    · rw [hb'] at hb; injection hb with hb; subst hb; simpa using hl')
  clear hown hb hg hat B1 B2
  go_wp2
  have hne : ∀ j, j < w.heap.size + 1 + 1 → some j ≠ (Value.slice A' p.length c').ownBlock := fun j hj he => by have := HA.out j he.symm; omega
  refine bodyPost_ret (v := .agg #[.string t, .slice A' p.length c', .int .i64 q, .bool r]) ?_ rfl ⟨A', c', rfl, ?_, ?_⟩
  · simp [results, Try.results65, go_sem, y0, y1, y2, y3]
  · refine R_int_of_own ?_ (fun b hb => by have := HA.out b hb; omega)
    exact own_setCell (own_setCell (own_setCell (own_setCell (own_setCell HO.out (hne _ (by simp; omega)) _) (hne _ (by simp)) _) (hne _ (by simp)) _) (hne _ (by simp)) _) (hne _ (by simp)) _
  · exact ((((HB.out.setCell (by simp) _).setCell (by simp) _).setCell (by simp) _).setCell (by simp) _).setCell (by simp) _

/-- a number brought between two bounds -/
def clampI (lo hi n : Int) : Int := if n < lo then lo else if hi < n then hi else n
theorem clampI_ge {lo hi n : Int} (h : lo ≤ hi) : lo ≤ clampI lo hi n ∧ clampI lo hi n ≤ hi := by
  unfold clampI
  split
  · omega
  · split <;> omega
def newS (n q : Int) : WS := { window := clampI 1 65535 n, queue := clampI 0 65536 q, last := 0, flights := [], waits := [], D := .map [], online := false }
theorem newS_ok (n q : Int) : WOk (newS n q) := by
  have h1 := @clampI_ge 1 65535 n (by omega)
  have h2 := @clampI_ge 0 65536 q (by omega)
  exact ⟨h1.1, h1.2, h2.1, h2.2, by simp [newS], by simp [newS], by simp [newS], by simp [newS]⟩
theorem new_any (n q : Int) (w : World) :
    Calls Try.prog 22 #[.int .i64 n, .int .i64 q] w fun e w' => ∃ B, e = .returned (.pointer (some ⟨B, 0, none⟩)) ∧ WinAt' w' w.heap.size (fun k => w.heap.size ≤ k ∧ k < w'.heap.size) B (newS n q) ∧ Below w.heap.size w w' := by
  obtain ⟨a, ha⟩ : ∃ a, a = clampI 1 65535 n := ⟨_, rfl⟩
  obtain ⟨b, hb⟩ : ∃ b, b = clampI 0 65536 q := ⟨_, rfl⟩
  have fin : ∀ (w' : World), w' = (w.alloc (.map #[] 0)).alloc (.cells #[.int .i64 a, .int .i64 b, .int .i64 0, .slice none 0 0, .slice none 0 0, .map (some w.heap.size), .bool false] 103) →
      WinAt' w' w.heap.size (fun k => w.heap.size ≤ k ∧ k < w'.heap.size) (w.heap.size + 1) (newS n q) ∧ Below w.heap.size w w' := by
    rintro w' rfl
    refine ⟨⟨.slice none 0 0, .slice none 0 0, w.heap.size, ⟨by simp, by simp; omega, by simp, by simp, ?_, Kd.R_nil _ _ _ _ _, Kd.Q_nil _ _ _ _ _, ?_⟩⟩, ((Below.refl _ _).alloc (Nat.le_refl _) _).alloc (by simp) _⟩
    · have := heap_alloc_new (w.alloc (.map #[] 0)) (.cells #[.int .i64 a, .int .i64 b, .int .i64 0, .slice none 0 0, .slice none 0 0, .map (some w.heap.size), .bool false] 103)
      simp only [World.size_alloc] at this
      rw [this]
      simp [winCells, newS, ha, hb]
    · exact (World.ownsMap_made w _ _ _).alloc _
  have HF := Aside0.mk fin
  have hmm := @run_makeMap Try.prog
  have HA := Aside0.mk ha
  have HB := Aside0.mk hb
  clear fin ha hb
  have ca : (n < 1 ∧ a = 1) ∨ (¬ n < 1 ∧ 65535 < n ∧ a = 65535) ∨ (¬ n < 1 ∧ ¬ 65535 < n ∧ a = n) := by rw [HA.out]; unfold clampI; split <;> (try split) <;> omega
  have cb : (q < 0 ∧ b = 0) ∨ (¬ q < 0 ∧ 65536 < q ∧ b = 65536) ∨ (¬ q < 0 ∧ ¬ 65536 < q ∧ b = q) := by rw [HB.out]; unfold clampI; split <;> (try split) <;> omega
  clear HA HB
  rcases ca with ⟨a1, rfl⟩ | ⟨a1, a2, rfl⟩ | ⟨a1, a2, rfl⟩ <;> rcases cb with ⟨b1, rfl⟩ | ⟨b1, b2, rfl⟩ | ⟨b1, b2, rfl⟩
  all_goals
    go_enter Try.func22, Try.ntmps22
    go_wp2
    go_ret
    exact ⟨_, rfl, HF.out _ rfl⟩

def sendB (m : Msg) : Bool := m.qos == 1 || m.qos == 2
theorem sendable_any (m : Msg) (v : Value) (w : World) :
    Calls Try.prog 63 #[.agg #[.string m.topic, v, .int .i64 m.qos, .bool m.retain]] w fun e w' => e = .returned (.bool (sendB m)) ∧ Below w.heap.size w w' := by
  obtain ⟨t, p, q, r⟩ := m
  unfold sendB
  dsimp only
  by_cases h1 : (q == 1) = true
  · rw [h1]
    go_enter Try.func63, Try.ntmps63
    go_wp2
    go_ret
    exact ⟨rfl, (Below.refl _ _).alloc (Nat.le_refl _) _⟩
  · have h1' : (q == 1) = false := by simpa using h1
    rw [h1']
    clear h1
    cases h2 : (q == 2)
    · go_enter Try.func63, Try.ntmps63
      go_wp2
      go_ret
      exact ⟨rfl, (Below.refl _ _).alloc (Nat.le_refl _) _⟩
    · go_enter Try.func63, Try.ntmps63
      go_wp2
      go_ret
      exact ⟨rfl, (Below.refl _ _).alloc (Nat.le_refl _) _⟩
section
variable {w : World} {base B bm : Nat} {ok : Nat → Prop} {s : WS} {vf vw : Value}
theorem WinAt.cells (h : WinAt w base ok B s vf vw bm) : w.cell? ⟨B, 0, none⟩ = some (.int .i64 s.window) ∧ w.cell? ⟨B, 1, none⟩ = some (.int .i64 s.queue) ∧ w.cell? ⟨B, 2, none⟩ = some (.int .i64 s.last) ∧
    w.cell? ⟨B, 3, none⟩ = some vf ∧ w.cell? ⟨B, 4, none⟩ = some vw ∧ w.cell? ⟨B, 5, none⟩ = some (.map (some bm)) ∧ w.cell? ⟨B, 6, none⟩ = some (.bool s.online) ∧ ∀ j, w.frozen? ⟨B, j, none⟩ = false :=
  ⟨blk_cell h.blk 0, blk_cell h.blk 1, blk_cell h.blk 2, blk_cell h.blk 3, blk_cell h.blk 4, blk_cell h.blk 5, blk_cell h.blk 6, fun j => blk_frozen h.blk j⟩
theorem online_any (h : WinAt' w base ok B s) : Calls Try.prog 37 #[.pointer (some ⟨B, 0, none⟩)] w fun e w' => e = .returned (.bool s.online) ∧ w = w' := by
  obtain ⟨vf, vw, bm, h⟩ := h
  obtain ⟨c0, c1, c2, c3, c4, c5, c6, cf⟩ := h.cells
  clear h c0 c1 c2 c3 c4 c5 cf
  obtain ⟨x1, x2, x3, x4, x5, x6, on⟩ := s
  dsimp only at *
  go_enter Try.func37, Try.ntmps37
  go_wp2
  go_ret
  exact ⟨rfl, rfl⟩
theorem flying_any (h : WinAt' w base ok B s) : Calls Try.prog 27 #[.pointer (some ⟨B, 0, none⟩)] w fun e w' => e = .returned (.int .i64 (s.flights.length : Int)) ∧ w = w' := by
  obtain ⟨vf, vw, bm, h⟩ := h
  obtain ⟨c0, c1, c2, c3, c4, c5, c6, cf⟩ := h.cells
  obtain ⟨A, c, he⟩ := Kd.R_slice h.flights
  subst he
  clear h c0 c1 c2 c4 c5 c6 cf
  obtain ⟨x1, x2, x3, x4, x5, x6, on⟩ := s
  dsimp only at *
  go_enter Try.func27, Try.ntmps27
  go_wp2
  go_ret
  exact ⟨rfl, rfl⟩
theorem waiting_any (h : WinAt' w base ok B s) : Calls Try.prog 26 #[.pointer (some ⟨B, 0, none⟩)] w fun e w' => e = .returned (.int .i64 (s.waits.length : Int)) ∧ w = w' := by
  obtain ⟨vf, vw, bm, h⟩ := h
  obtain ⟨c0, c1, c2, c3, c4, c5, c6, cf⟩ := h.cells
  obtain ⟨A, c, he, _⟩ := Kd.Q_slice h.waits
  subst he
  clear h c0 c1 c2 c3 c5 c6 cf
  obtain ⟨x1, x2, x3, x4, x5, x6, on⟩ := s
  dsimp only at *
  go_enter Try.func26, Try.ntmps26
  go_wp2
  go_ret
  exact ⟨rfl, rfl⟩
end
/-- a cell of the window's own block is written: what lies in other blocks stays -/
theorem WinAt.set {w : World} {base B bm : Nat} {ok : Nat → Prop} {s s' : WS} {vf vw : Value} (h : WinAt w base ok B s vf vw bm) (j : Nat) (u : Value)
    (hc : (winCells s vf vw bm).setIfInBounds j u = winCells s' vf vw bm) (hf : s'.flights = s.flights) (hw : s'.waits = s.waits) (hD : s'.D = s.D) :
    WinAt (w.setCell ⟨B, j, none⟩ u) base ok B s' vf vw bm := by
  refine ⟨h.okB, h.okM, h.baseB, h.baseM, by rw [← hc]; exact blk_set h.blk j u, ?_, ?_, ?_⟩
  · rw [hf]; exact Kd.R_set h.flights h.blk (by decide) j u
  · rw [hw]; exact Kd.Q_set h.waits h.blk (by decide) j u
  · rw [hD]
    refine h.map.setCell (a := ⟨B, j, none⟩) (fun e => ?_) u
    obtain ⟨es, clock, hb, _⟩ := h.map
    have e' : bm = B := e
    subst e'
    rw [h.blk] at hb
    cases hb
theorem down_any {w : World} {base B : Nat} {ok : Nat → Prop} {s : WS} (h : WinAt' w base ok B s) : Calls Try.prog 39 #[.pointer (some ⟨B, 0, none⟩)] w fun e w' => e = .returned (.tuple #[]) ∧ WinAt' w' base ok B { s with online := false } ∧ Fr ok w w' := by
  obtain ⟨vf, vw, bm, h⟩ := h
  obtain ⟨c0, c1, c2, c3, c4, c5, c6, cf⟩ := h.cells
  have h6 := cf 6
  have H := Aside0.mk h
  have fin := Aside0.mk (show WinAt' (w.setCell ⟨B, 6, none⟩ (.bool false)) base ok B { s with online := false } ∧ Fr ok w (w.setCell ⟨B, 6, none⟩ (.bool false)) from ⟨⟨vf, vw, bm, h.set 6 (.bool false) (by simp [winCells]) rfl rfl rfl⟩, (Fr.refl ok w).setCell (fun _ => h.okB) _⟩)
  clear h c0 c1 c2 c3 c4 c5 cf
  go_enter Try.func39, Try.ntmps39
  go_wp2
  go_end0
  exact ⟨rfl, fin.out⟩
end Go.Proofs.Ytjccmlmkcjmicaa.Win

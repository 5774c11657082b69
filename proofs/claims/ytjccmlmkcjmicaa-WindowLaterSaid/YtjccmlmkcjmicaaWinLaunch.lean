/- The walk of a window's launch. No statement of the program. -/
import Derived.Test.YtjccmlmkcjmicaaWinPkt
import Derived.Deep.CutRange
namespace Go.Proofs.Ytjccmlmkcjmicaa.Win
open Go Go.RowKit Go.Maps Go.MapKept Go.ChangeMaps Go.Proofs.YtjccmlmkcjmicaaW.PrintWords Go.Proofs.Ytjccmlmkcjmicaa.Kinds
set_option linter.unusedVariables false
set_option linter.unusedSimpArgs false

theorem cell_of_heap {w w1 : World} {p : Addr} (h : w1.heap[p.block]? = w.heap[p.block]?) : w1.cell? p = w.cell? p := by
  unfold World.cell?; rw [h]
/-- bytes that are read, where one block of other cells is written -/
theorem C_u8_far {w w1 : World} {A : Option Addr} {n : Nat} {xs : List Int} (hC : (Kd.int .u8).C w A n xs) {B t : Nat} {cells : Array Value} (hB : w.heap[B]? = some (.cells cells t (0, 0))) (hne : ∀ (j : Nat) (x : Int), cells[j]? ≠ some (Value.int .u8 x))
    (hF : ∀ k, k < w.heap.size → k ≠ B → w1.heap[k]? = w.heap[k]?) : (Kd.int .u8).C w1 A n xs := by
  refine ⟨hC.1, hC.2.1, fun hn => ?_⟩
  obtain ⟨ad, e, hc⟩ := hC.2.2 hn
  refine ⟨ad, e, fun j p hj => ?_⟩
  obtain ⟨c, hs, hr, hcell⟩ := hc j p hj
  refine ⟨c, hs, hr, fun i u hu => ?_⟩
  have h := hcell i u hu
  have hr' : c = [.int .u8 p] := hr
  have hu' : u = .int .u8 p := by
    subst hr'
    rcases i with _ | i
    · simpa using hu.symm
    · simp at hu
  by_cases hb : (ad.add (j * (Kd.int .u8).sz + i)).block = B
  · exfalso
    unfold World.cell? at h
    rw [hb, hB] at h
    simp only at h
    split at h
    · cases h
    · exact hne _ p (h.trans (by rw [hu']))
  · have hlt : (ad.add (j * (Kd.int .u8).sz + i)).block < w.heap.size := World.block_lt_of_cell? w _ h
    rw [cell_of_heap (hF _ hlt hb)]
    exact h
theorem winCells_u8 (s : WS) (vf vw : Value) (bm : Nat) {A c A2 c2} {n m : Nat} (hf : vf = .slice A n c) (hw : vw = .slice A2 m c2) : ∀ (j : Nat) (x : Int), (winCells s vf vw bm)[j]? ≠ some (Value.int .u8 x) := by
  intro j x h
  subst hf hw
  rcases j with _ | _ | _ | _ | _ | _ | _ | j <;> simp [winCells] at h
theorem WinAt'.C_u8 {w w1 : World} {base B : Nat} {ok : Nat → Prop} {s : WS} (h : WinAt' w base ok B s) {A : Option Addr} {n : Nat} {xs : List Int} (hC : (Kd.int .u8).C w A n xs) (hF : Fr (fun k => k = B) w w1) : (Kd.int .u8).C w1 A n xs := by
  obtain ⟨vf, vw, bm, h⟩ := h
  obtain ⟨Af, cf, hf⟩ := Kd.R_slice h.flights
  obtain ⟨Aw, cw, hw, _⟩ := Kd.Q_slice h.waits
  exact C_u8_far hC h.blk (winCells_u8 s vf vw bm hf hw) (fun k hk hne => hF.block k hk hne)
theorem WinAt'.lt {w : World} {base B : Nat} {ok : Nat → Prop} {s : WS} (h : WinAt' w base ok B s) : B < w.heap.size := by
  obtain ⟨vf, vw, bm, h⟩ := h; exact blk_lt h.blk
theorem WinAt'.okB {w : World} {base B : Nat} {ok : Nat → Prop} {s : WS} (h : WinAt' w base ok B s) : ok B := by
  obtain ⟨vf, vw, bm, h⟩ := h; exact h.okB
theorem WinAt'.baseB {w : World} {base B : Nat} {ok : Nat → Prop} {s : WS} (h : WinAt' w base ok B s) : base ≤ B := by
  obtain ⟨vf, vw, bm, h⟩ := h; exact h.baseB

/-- an element is laid behind what is under way -/
theorem WinAt.fly {w w1 : World} {base B bm : Nat} {ok ok' : Nat → Prop} {s : WS} {vf vw : Value} (h : WinAt w base ok B s vf vw bm) {v1 : Value} {fs : List Flt} (hq : kFlt.R 112 w1 base ok' v1 fs) (hg : w.grownBy w1 vf.ownBlock) (hok : ∀ k, ok k → ok' k) :
    WinAt (w1.setCell ⟨B, 3, none⟩ v1) base ok' B { s with flights := fs } v1 vw bm := by
  have hB1 : w1.heap[B]? = some (.cells (winCells s vf vw bm) 103 (0, 0)) := blk_grown h.blk hg (Kd.R_ne h.flights h.blk (by decide))
  have hw : kMsg.Q 64 w1 base ok vw s.waits := Kd.Q_over' h.waits (e' := 112) (fun k hk => Kd.R_typed h.flights k hk) (by decide) hg
  have hmap : w1.ownsMap Try.prog 3 (unitElem (H := Unit)) bm (Maps.size s.D) s.D := by
    obtain ⟨es, clock, hb, r⟩ := h.map
    refine ⟨es, clock, (hg.block bm (Array.getElem?_eq_some_iff.1 hb).1 (fun e => ?_)).trans hb, r⟩
    obtain ⟨cells, hc⟩ := Kd.R_typed h.flights bm e.symm
    rw [hb] at hc; cases hc
  refine ⟨hok _ h.okB, hok _ h.okM, h.baseB, h.baseM, ?_, Kd.R_set hq hB1 (by decide) 3 v1, Kd.Q_mono (Kd.Q_set hw hB1 (by decide) 3 v1) hok, hmap.setCell (a := ⟨B, 3, none⟩) (fun e => ?_) v1⟩
  · rw [blk_set hB1 3 v1]; simp [winCells]
  · obtain ⟨es, clock, hb, _⟩ := hmap
    have e' : bm = B := e
    subst e'
    rw [hB1] at hb
    cases hb

theorem WinAt'.alloc {w : World} {base B : Nat} {ok : Nat → Prop} {s : WS} (h : WinAt' w base ok B s) (o : Obj) : WinAt' (w.alloc o) base ok B s := h.below (below_alloc (Below.refl _ _) o)
theorem setRow_cell {w : World} {g : Nat} {p : Addr} (h : ¬ p.block = g) (cs : Array Value) : (w.setRow g cs).cell? p = w.cell? p := cell_of_heap (setRow_far h cs)
theorem WinAt'.bound2 {w : World} {base B : Nat} {ok : Nat → Prop} {s : WS} (h : WinAt' w base ok B s) : ∃ okb : Nat → Prop, (∀ k, okb k → k < w.heap.size) ∧ (∀ k, okb k → base ≤ k) ∧ (∀ k, okb k → ok k) ∧ WinAt' w base okb B s := by
  obtain ⟨vf, vw, bm, h⟩ := h
  refine ⟨fun k => ok k ∧ base ≤ k ∧ k < w.heap.size, fun k hk => hk.2.2, fun k hk => hk.2.1, fun k hk => hk.1, vf, vw, bm, ⟨h.okB, h.baseB, blk_lt h.blk⟩, ⟨h.okM, h.baseM, ?_⟩, h.baseB, h.baseM, h.blk, Kd.R_mono (Kd.R_bound h.flights) (fun k hk => ⟨hk.1, hk.2.1, hk.2.2.1⟩), Kd.Q_mono (Kd.Q_bound h.waits) (fun k hk => ⟨hk.1, hk.2.1, hk.2.2.1⟩), h.map⟩
  obtain ⟨es, clock, hb, _⟩ := h.map
  exact (Array.getElem?_eq_some_iff.1 hb).1
theorem WinAt'.types {w : World} {base B : Nat} {ok : Nat → Prop} {s : WS} (h : WinAt' w base ok B s) {g t : Nat} {cells : Array Value} (hb : w.heap[g]? = some (.cells cells t (0, 0))) (ht : (t ≠ 103 ∧ (∀ q, q ∈ 112 :: kFlt.E → q ≠ t) ∧ (∀ q, q ∈ 64 :: kMsg.E → q ≠ t))) :
    WinAt' w base (fun k => ok k ∧ k ≠ g) B s := by
  obtain ⟨vf, vw, bm, h⟩ := h
  refine ⟨vf, vw, bm, ⟨h.okB, fun e => ?_⟩, ⟨h.okM, fun e => ?_⟩, h.baseB, h.baseM, h.blk, Kd.R_types h.flights hb ht.2.1, Kd.Q_types h.waits hb ht.2.2, h.map⟩
  · have hk := h.blk
    rw [e, hb] at hk
    injection hk with hk
    injection hk with _ hk
    exact ht.1 hk
  · obtain ⟨es, clock, hk, _⟩ := h.map
    rw [e, hb] at hk
    cases hk
/-- between the two halves of launch: the window, what is read, the two boxes -/
structure LMid (w : World) (base : Nat) (ok : Nat → Prop) (B : Nat) (s : WS) (m : Msg) (A : Option Addr) (c : Nat) (X : World) : Prop where
  win : WinAt' X base ok B s
  fr : Fr ok w X
  rd : (Kd.int .u8).C X A m.payload.length m.payload
  box : X.heap[w.heap.size]? = some (.cells #[.string m.topic, .slice A m.payload.length c, .int .i64 m.qos, .bool m.retain] 64 (0, 0))
  res : X.heap[w.heap.size + 1]? = some (.cells noCells 75 (0, 0))
section
variable {w X X1 : World} {base B c : Nat} {ok : Nat → Prop} {s : WS} {m : Msg} {A : Option Addr}
theorem LMid.sz (h : LMid w base ok B s m A c X) : w.heap.size + 2 ≤ X.heap.size := by have := blk_lt h.res; omega
theorem LMid.below (h : LMid w base ok B s m A c X) (hb : Below X.heap.size X X1) : LMid w base ok B s m A c X1 :=
  ⟨h.win.below hb, h.fr.trans (Fr.of_below (fun _ => False) hb) (fun _ _ e => e.elim), Kd.C_below h.rd hb, (hb.block _ (blk_lt h.box)).trans h.box, (hb.block _ (blk_lt h.res)).trans h.res⟩
theorem LMid.alloc (h : LMid w base ok B s m A c X) (o : Obj) : LMid w base ok B s m A c (X.alloc o) := h.below (below_alloc (Below.refl _ _) o)
theorem LMid.drew (h : LMid w base ok B s m A c X) : LMid w base ok B s m A c X.drew := h.below (below_drew (Below.refl _ _))
theorem LMid.num (h : LMid w base ok B s m A c X) (hok : ∀ k, ok k → k < w.heap.size) {s' : WS} (hw : WinAt' X1 base ok B s') (hf : Fr (fun k => k = B) X X1) : LMid w base ok B s' m A c X1 := by
  have hB := hok _ h.win.okB
  exact ⟨hw, h.fr.trans hf (fun k _ e => e ▸ h.win.okB), h.win.C_u8 h.rd hf, (hf.block _ (blk_lt h.box) (by omega)).trans h.box, (hf.block _ (blk_lt h.res) (by omega)).trans h.res⟩
end
theorem num_mid {w X : World} {base B c : Nat} {ok : Nat → Prop} {s : WS} {m : Msg} {A : Option Addr} (h : LMid w base ok B s m A c X) (hok : ∀ k, ok k → k < w.heap.size) (hs : WOk s) (r : Int) (hr : numL s.flights s.D 65535 s.last = r) :
    Calls Try.prog 62 #[.pointer (some ⟨B, 0, none⟩)] X fun e w' => e = .returned (.int .i64 r) ∧ LMid w base ok B { s with last := r } m A c w' ∧ Fr (fun k => k = B) X w' := by
  subst hr
  exact (number_any h.win hs).mono (fun e w' hq => ⟨hq.1, h.num hok hq.2.1 hq.2.2, hq.2.2⟩)
theorem own_mid {w X : World} {base B c : Nat} {ok : Nat → Prop} {s : WS} {m : Msg} {A : Option Addr} (h : LMid w base ok B s m A c X) (hml : m.payload.length ≤ 1099511627776) :
    Calls Try.prog 65 #[.agg #[.string m.topic, .slice A m.payload.length c, .int .i64 m.qos, .bool m.retain]] X fun e w' => ∃ A' c', e = .returned (.agg #[.string m.topic, .slice A' m.payload.length c', .int .i64 m.qos, .bool m.retain]) ∧
      LMid w base ok B s m A c w' ∧ (Kd.int .u8).R 5 w' w.heap.size (fun k => w.heap.size ≤ k) (.slice A' m.payload.length c') m.payload ∧ Below X.heap.size X w' := by
  refine (own_any m A c X h.rd hml).mono ?_
  rintro e w' ⟨A', c', rfl, hR, hb⟩
  have := h.sz
  exact ⟨A', c', rfl, h.below hb, Kd.R_mono (Kd.R_lower hR (by omega)) (fun k hk => by omega), hb⟩
def noF : Array Value := #[.int .i64 0, .string ⟨#[]⟩, .slice none 0 0, .int .i64 0, .bool false, .bool false]
theorem fltSize : (Try.prog.info? 112).map (·.size) = some 6 := by kernel_rfl
/-- the flight's box is written -/
theorem LMid.flt {w X : World} {base B c D : Nat} {ok : Nat → Prop} {s : WS} {m : Msg} {A : Option Addr} (h : LMid w base ok B s m A c X) (hok : ∀ k, ok k → k < w.heap.size) {A' : Option Addr} {c' : Nat}
    (hR : (Kd.int .u8).R 5 X w.heap.size (fun k => w.heap.size ≤ k) (.slice A' m.payload.length c') m.payload) (hD : X.heap[D]? = some (.cells noF 112 (0, 0))) (hDn : w.heap.size + 2 ≤ D) (cs : Array Value) :
    WinAt' (X.setRow D cs) base ok B s ∧ Fr ok w (X.setRow D cs) ∧ (Kd.int .u8).R 5 (X.setRow D cs) w.heap.size (fun k => w.heap.size ≤ k) (.slice A' m.payload.length c') m.payload ∧ (X.setRow D cs).heap[D]? = some (.cells cs 112 (0, 0)) ∧
      (X.setRow D cs).heap[w.heap.size + 1]? = some (.cells noCells 75 (0, 0)) := by
  have hf : Fr (fun k => k = D) X (X.setRow D cs) := ⟨rfl, rfl, rfl, by simp [World.setRow], fun k _ hk => setRow_far hk cs⟩
  refine ⟨h.win.fr hf (fun k hk e => by have := hok k hk; omega), h.fr.trans hf (fun k hk e => by omega), ?_, setRow_block hD, (setRow_far (by omega) cs).trans h.res⟩
  exact Kd.R_mono (Kd.R_step (Kd.R_types hR hD (by decide)) (fun k hk _ => setRow_far hk.2 cs)) (fun k hk => hk.1)

theorem store_flts {w : World} {p : Addr} {x : Value} (h : w.cell? p = some x) (hf : w.frozen? p = false) (A : Option Addr) (n c : Nat) : (Instr.storeAt 101 (.pointer (some p)) (.slice A n c)).run Try.prog w = .ok () (w.setCell p (.slice A n c)) := by
  go_simp

section
attribute [-go_sem] Instr.storeAt
set_option maxRecDepth 100000 in
set_option maxHeartbeats 2000000 in
theorem launch_any {w : World} {base B : Nat} {ok : Nat → Prop} {s : WS} (h : WinAt' w base ok B s) (hok : WOk s) (m : Msg) (A : Option Addr) (c : Nat) (w0 : World) (hwb : Below base w0 w) (hbw : base ≤ w.heap.size)
    (hr : (Kd.int .u8).C w A m.payload.length m.payload) (hml : m.payload.length ≤ 1099511627776) (hfl : s.flights.length < 65536) :
    Calls Try.prog 64 #[.pointer (some ⟨B, 0, none⟩), .agg #[.string m.topic, .slice A m.payload.length c, .int .i64 m.qos, .bool m.retain]] w fun e w' => ∃ (cs : List Value) (okp : Nat → Prop), e = .returned (.agg cs.toArray) ∧
      kPkt.M w' w.heap.size okp (pktOf ⟨numL s.flights s.D 65535 s.last, m, false⟩ false) cs ∧ (∀ k, okp k → w.heap.size ≤ k ∧ k < w'.heap.size) ∧
      WinAt' w' base (fun k => okN ok w w' k ∧ ¬ okp k) B { s with last := numL s.flights s.D 65535 s.last, flights := s.flights ++ [⟨numL s.flights s.D 65535 s.last, m, false⟩] } ∧ Fr ok w w' ∧ Below base w0 w' := by
  obtain ⟨okb, hokb, hokbase, hokok, h'⟩ := h.bound2
  have H := Aside0.mk h'
  clear h'
  have HC := Aside0.mk hr
  have hB := h.lt
  obtain ⟨r, hrr⟩ : ∃ r, numL s.flights s.D 65535 s.last = r := ⟨_, rfl⟩
  rw [hrr]
  have hNum := fun (X : World) (hX : LMid w base okb B s m A c X) => Aside0.mk (num_mid hX hokb hok r hrr)
  have hOwn := fun (X : World) (hX : LMid w base okb B { s with last := r } m A c X) => Aside0.mk (own_mid hX hml)
  clear h hr hrr
  obtain ⟨t, p, q, rt⟩ := m
  dsimp only at *
  go_enter Try.func64, Try.ntmps64
  go_upto_region 1 with fail
  have hd : Below w.heap.size w ((w.alloc (.cells #[.string t, .slice A p.length c, .int .i64 q, .bool rt] 64)).alloc (.cells noCells 75)) := ((Below.refl _ _).alloc (Nat.le_refl _) _).alloc (by simp) _
  have hP : LMid w base okb B s ⟨t, p, q, rt⟩ A c ((w.alloc (.cells #[.string t, .slice A p.length c, .int .i64 q, .bool rt] 64)).alloc (.cells noCells 75)) :=
    ⟨H.out.below hd, Fr.of_below _ hd, Kd.C_below HC.out hd, alloc_new1 _ _ _, alloc_new2 _ _ _⟩
  have hsz : ((w.alloc (.cells #[.string t, .slice A p.length c, .int .i64 q, .bool rt] 64)).alloc (.cells noCells 75)).heap.size = w.heap.size + 2 := by simp
  change Code.wp _ _ _ _ ((w.alloc (.cells #[.string t, .slice A p.length c, .int .i64 q, .bool rt] 64)).alloc (.cells noCells 75))
  generalize (w.alloc (.cells #[.string t, .slice A p.length c, .int .i64 q, .bool rt] 64)).alloc (.cells noCells 75) = W at *
  go_cut [5] from 6 to 10 (fun s5 wx => ∃ (D : Nat) (A' : Option Addr) (c' : Nat), s5 = .pointer (some ⟨D, 0, none⟩) ∧ w.heap.size + 2 ≤ D ∧ Aside0 (WinAt' wx base okb B { s with last := r } ∧ Fr okb w wx ∧
    (Kd.int .u8).R 5 wx w.heap.size (fun k => w.heap.size ≤ k) (.slice A' p.length c') p ∧ wx.heap[D]? = some (.cells #[.int .i64 r, .string t, .slice A' p.length c', .int .i64 q, .bool rt, .bool false] 112 (0, 0)) ∧ wx.heap[w.heap.size + 1]? = some (.cells noCells 75 (0, 0))))
  case first =>
    have HP := Aside0.mk hP
    have x0 : W.cell? ⟨w.heap.size, 0, none⟩ = some (.string t) := blk_cell HP.out.box 0
    have x1 : W.cell? ⟨w.heap.size, 1, none⟩ = some (.slice A p.length c) := blk_cell HP.out.box 1
    have x2 : W.cell? ⟨w.heap.size, 2, none⟩ = some (.int .i64 q) := blk_cell HP.out.box 2
    have x3 : W.cell? ⟨w.heap.size, 3, none⟩ = some (.bool rt) := blk_cell HP.out.box 3
    have hn0 : ¬ w.heap.size = W.heap.size := by omega
    have hn1 : ¬ W.heap.size = w.heap.size := by omega
    have hsz' : w.heap.size + 2 ≤ W.heap.size := by omega
    clear hP hd hsz
    go_region_held3 (fun w' => w'.cell? ⟨w.heap.size, 0, none⟩ = some (.string t) ∧ w'.cell? ⟨w.heap.size, 1, none⟩ = some (.slice A p.length c) ∧ w'.cell? ⟨w.heap.size, 2, none⟩ = some (.int .i64 q) ∧ w'.cell? ⟨w.heap.size, 3, none⟩ = some (.bool rt))
      (simp [*, World.cell?_alloc_some, setRow_cell])
      (first
        | (go_at_call 62; refine (hNum _ (by first | exact HP.out.drew | exact (HP.out.alloc _).drew | exact HP.out.drew.alloc _)).out.mono ?_; rintro e w1 ⟨rfl, hp, hf⟩
           have y0 : w1.cell? ⟨w.heap.size, 0, none⟩ = some (.string t) := blk_cell hp.box 0
           have y1 : w1.cell? ⟨w.heap.size, 1, none⟩ = some (.slice A p.length c) := blk_cell hp.box 1
           have y2 : w1.cell? ⟨w.heap.size, 2, none⟩ = some (.int .i64 q) := blk_cell hp.box 2
           have y3 : w1.cell? ⟨w.heap.size, 3, none⟩ = some (.bool rt) := blk_cell hp.box 3
           have hm0 : ¬ w.heap.size = w1.heap.size := by have := hp.sz; omega
           have hm1 : ¬ w1.heap.size = w.heap.size := by have := hp.sz; omega
           have HP1 := Aside0.mk hp
           (try have HD1 := Aside0.mk ((hf.block W.heap.size (by simp) (by omega)).trans (alloc_new W (.cells noF 112))))
           clear hp hf)
        | (go_at_call 65; refine (hOwn _ (by first | exact HP1.out | exact HP1.out.alloc _)).out.mono ?_; rintro e w3 ⟨A', c', rfl, hp, hR, hb⟩
           have z0 : w3.cell? ⟨w.heap.size, 0, none⟩ = some (.string t) := blk_cell hp.box 0
           have z1 : w3.cell? ⟨w.heap.size, 1, none⟩ = some (.slice A p.length c) := blk_cell hp.box 1
           have z2 : w3.cell? ⟨w.heap.size, 2, none⟩ = some (.int .i64 q) := blk_cell hp.box 2
           have z3 : w3.cell? ⟨w.heap.size, 3, none⟩ = some (.bool rt) := blk_cell hp.box 3
           have hl0 : ¬ w.heap.size = w3.heap.size := by have := hp.sz; omega
           have hl1 : ¬ w3.heap.size = w.heap.size := by have := hp.sz; omega
           have HP3 := Aside0.mk hp
           have HR3 := Aside0.mk hR
           (first
             | have HD3 := Aside0.mk ((hb.block W.heap.size (blk_lt HD1.out)).trans HD1.out)
             | have HD3 := Aside0.mk ((hb.block w1.heap.size (by simp)).trans (alloc_new w1 (.cells noF 112)))
             | skip)
           (first
             | have hst := run_storeAt_row (P := Try.prog) w3 _ 112 noF #[.int .i64 r, .string t, .slice A' p.length c', .int .i64 q, .bool rt, .bool false] HD3.out fltSize rfl (by simp [Value.oneCell'])
             | have hst := run_storeAt_row (P := Try.prog) (w3.alloc (.cells noF 112)) w3.heap.size 112 noF #[.int .i64 r, .string t, .slice A' p.length c', .int .i64 q, .bool rt, .bool false] (alloc_new w3 _) fltSize rfl (by simp [Value.oneCell']))
           (try simp only [noF] at hst)
           clear hp hR hb))
    all_goals
      go_wp2_with fail
      go_meet
      case rel =>
        first
          | exact ⟨_, A', c', rfl, by have := HP1.out.sz; omega, ⟨by
              have h := HP3.out.flt hokb HR3.out HD3.out (by have := HP1.out.sz; omega) #[.int .i64 r, .string t, .slice A' p.length c', .int .i64 q, .bool rt, .bool false]
              exact ⟨h.1, h.2.1, h.2.2.1, h.2.2.2.1, h.2.2.2.2⟩⟩⟩
          | exact ⟨_, A', c', rfl, by have := HP3.out.sz; omega, ⟨by
              have h := (HP3.out.alloc (.cells noF 112)).flt hokb (Kd.R_alloc HR3.out _) (alloc_new w3 _) (by have := HP3.out.sz; omega) #[.int .i64 r, .string t, .slice A' p.length c', .int .i64 q, .bool rt, .bool false]
              exact ⟨h.1, h.2.1, h.2.2.1, h.2.2.2.1, h.2.2.2.2⟩⟩⟩
  case rest =>
    clear hNum hOwn HC hP hd hsz
    obtain ⟨D, A', c', rfl, hDn, HX⟩ := hcut
    obtain ⟨vf, vw, bm, hX⟩ := HX.out.1
    obtain ⟨_, _, _, c3, _, _, _, cf⟩ := hX.cells
    obtain ⟨Af, cf', hef⟩ := Kd.R_slice hX.flights
    subst hef
    have f0 : wc.cell? ⟨D, 0, none⟩ = some (.int .i64 r) := blk_cell HX.out.2.2.2.1 0
    have f1 : wc.cell? ⟨D, 1, none⟩ = some (.string t) := blk_cell HX.out.2.2.2.1 1
    have f2 : wc.cell? ⟨D, 2, none⟩ = some (.slice A' p.length c') := blk_cell HX.out.2.2.2.1 2
    have f3 : wc.cell? ⟨D, 3, none⟩ = some (.int .i64 q) := blk_cell HX.out.2.2.2.1 3
    have f4 : wc.cell? ⟨D, 4, none⟩ = some (.bool rt) := blk_cell HX.out.2.2.2.1 4
    have f5 : wc.cell? ⟨D, 5, none⟩ = some (.bool false) := blk_cell HX.out.2.2.2.1 5
    have cf3 := cf 3
    have HWX := Aside0.mk hX
    have hBc : B < wc.heap.size := blk_lt hX.blk
    have hDc : D < wc.heap.size := blk_lt HX.out.2.2.2.1
    have hwc : w.heap.size ≤ wc.heap.size := HX.out.2.1.size
    clear cf hX
    go_upto_region 2 with fail
    go_cut [] from 11 to 20 (fun wx => Aside0 (WinAt' wx base (fun k => okb k ∨ w.heap.size ≤ k) B { s with last := r, flights := s.flights ++ [⟨r, ⟨t, p, q, rt⟩, false⟩] } ∧ Fr okb w wx ∧ Below base w0 wx ∧
      (Kd.int .u8).C wx A' p.length p ∧ wx.heap[D]? = some (.cells #[.int .i64 r, .string t, .slice A' p.length c', .int .i64 q, .bool rt, .bool false] 112 (0, 0)) ∧ wx.heap[w.heap.size + 1]? = some (.cells noCells 75 (0, 0))))
    case first =>
      have c3' : ∀ o, (wc.alloc o).cell? ⟨B, 3, none⟩ = some (.slice Af s.flights.length cf') := fun o => (World.cell?_alloc_past _ _ _ hBc).trans c3
      go_region_law
        (refine Kd.R_append_step kFlt (w0 := w0) (W := wc.drew) base (by rfl) (.tmp 15) (.tmp 17) 101 112 (.agg #[.int .i64 0, .string ⟨#[]⟩, .slice none 0 0, .int .i64 0, .bool false, .bool false]) 72 (by rfl) Try.underlying101 infoFlt (by rfl) (by decide) (by omega) (.slice Af s.flights.length cf') s.flights ⟨r, ⟨t, p, q, rt⟩, false⟩ [.int .i64 r, .string t, .slice A' p.length c', .int .i64 q, .bool rt, .bool false] (fun k => okb k ∨ w.heap.size ≤ k) (fun k => w.heap.size ≤ k) (by rfl) (by rfl) ?hp ?hokp ?hfresh ?HO ?HB ?hbase ?hl ?_
         (case hp => exact flt_M_mk (f := ⟨r, ⟨t, p, q, rt⟩, false⟩) (Kd.R_drew (Kd.R_lower HX.out.2.2.1 hbw)))
         (case hokp => exact fun k hk => ⟨.inr hk, fun e => by have := hokb k (HWX.out.flights.1 k e.symm); omega⟩)
         (case hfresh => exact fun k hk => .inr (Nat.le_trans hwc hk))
         (case HO => exact Kd.R_mono (Kd.R_drew HWX.out.flights) (fun k hk => .inl hk))
         (case HB => exact (HX.out.2.1.below hwb hokbase hbw).drew)
         (case hbase => exact Nat.le_trans hbw hwc)
         (case hl => omega)
         intro v1 w4 hq hbl hg hat
         obtain ⟨A1, c1, he⟩ := Kd.R_slice hq
         subst he
         have hbB := blk_grown (w := wc.drew) HWX.out.blk hg (Kd.R_ne HWX.out.flights HWX.out.blk (by decide))
         have hc3 : w4.cell? ⟨B, 3, none⟩ = some (.slice Af s.flights.length cf') := blk_cell hbB 3
         have hf3 : w4.frozen? ⟨B, 3, none⟩ = false := blk_frozen hbB 3
         have hst := store_flts hc3 hf3 A1 (s.flights.length + 1) c1
         have f0' : w4.cell? ⟨D, 0, none⟩ = some (.int .i64 r) := blk_cell (blk_grown (w := wc.drew) HX.out.2.2.2.1 hg (fun e => by have := hokb D (HWX.out.flights.1 D e.symm); omega)) 0
         have HQ4 := Aside0.mk hq
         have HB4 := Aside0.mk hbl
         have HG4 := Aside0.mk hg
         clear hq hbl hg hat)
      all_goals
        have hW4 := WinAt.fly (w := wc.drew) (ok' := fun k => okb k ∨ w.heap.size ≤ k) (HWX.out.below (below_drew (Below.refl _ _))) HQ4.out HG4.out (fun k hk => .inl hk)
        rw [List.length_append] at hW4
        have hF4 := (((HX.out.2.1).drew.grown HG4.out (fun k _ he => HWX.out.flights.1 k he)).setCell (p := ⟨B, 3, none⟩) (fun _ => HWX.out.okB) (.slice A1 (s.flights.length + 1) c1))
        have hkeep : ∀ k, w.heap.size ≤ k → k < wc.heap.size → (w4.setCell ⟨B, 3, none⟩ (.slice A1 (s.flights.length + 1) c1)).heap[k]? = wc.heap[k]? := fun k hk1 hk2 =>
          (Below.heap_setCell w4 ⟨B, 3, none⟩ _ k (by show k ≠ B; omega)).trans (HG4.out.block k hk2 (fun e => by have := hokb k (HWX.out.flights.1 k e.symm); omega))
        have hC4 := (Kd.R_reads' (Kd.R_step HX.out.2.2.1 hkeep)).2.2
        have hDD := (hkeep D (by omega) hDc).trans HX.out.2.2.2.1
        have hGG := (hkeep (w.heap.size + 1) (by omega) (blk_lt HX.out.2.2.2.2)).trans HX.out.2.2.2.2
        have hB4 := HB4.out.setCell (p := ⟨B, 3, none⟩) HWX.out.baseB (.slice A1 (s.flights.length + 1) c1)
        have F4 := Aside0.mk (And.intro (⟨_, _, _, hW4⟩ : WinAt' _ _ _ _ _) (And.intro hF4 (And.intro hB4 (And.intro hC4 (And.intro hDD hGG)))))
        clear hW4 hF4 hkeep hC4 hDD hGG hB4
        go_wp2_with fail
        go_meet
        case rel => exact F4
    case rest =>
      have HZ := hcut
      clear hcut HX HWX c3 cf3 f0 f1 f2 f3 f4 f5 hBc hDc hwc
      have d0 : wc.cell? ⟨D, 0, none⟩ = some (.int .i64 r) := blk_cell HZ.out.2.2.2.2.1 0
      have d1 : wc.cell? ⟨D, 1, none⟩ = some (.string t) := blk_cell HZ.out.2.2.2.2.1 1
      have d2 : wc.cell? ⟨D, 2, none⟩ = some (.slice A' p.length c') := blk_cell HZ.out.2.2.2.2.1 2
      have d3 : wc.cell? ⟨D, 3, none⟩ = some (.int .i64 q) := blk_cell HZ.out.2.2.2.2.1 3
      have d4 : wc.cell? ⟨D, 4, none⟩ = some (.bool rt) := blk_cell HZ.out.2.2.2.2.1 4
      have d5 : wc.cell? ⟨D, 5, none⟩ = some (.bool false) := blk_cell HZ.out.2.2.2.2.1 5
      have HPk := Aside0.mk (packet_any ⟨r, ⟨t, p, q, rt⟩, false⟩ A' c' false wc HZ.out.2.2.2.1 hml)
      go_wp2_with fail
      refine HPk.out.mono ?_
      rintro e w5 ⟨cs, rfl, hM, hb⟩
      have hlen : cs.length = 25 := kPkt.K_len (kPkt.K_of_M hM)
      have hps : (Try.prog.info? 75).map (·.size) = some cs.toArray.size := by rw [List.size_toArray, hlen]; exact pktSize
      have hnc : noCells.size = cs.toArray.size := by rw [show noCells.size = 25 from rfl, List.size_toArray, hlen]
      have hone := kPkt.K_one (kPkt.K_of_M hM)
      have hG5 := (hb.block (w.heap.size + 1) (blk_lt HZ.out.2.2.2.2.2)).trans HZ.out.2.2.2.2.2
      have HM5 := Aside0.mk hM
      have HB5 := Aside0.mk hb
      have HL := Aside0.mk hlen
      have HO5 := Aside0.mk hone
      have HG5 := Aside0.mk hG5
      clear hM hb hlen hone hG5 d0 d1 d2 d3 d4 d5 HPk
      have hst := run_storeAt_row (P := Try.prog) w5 (w.heap.size + 1) 75 noCells cs.toArray HG5.out hps hnc (all_oneCell_toArray HO5.out)
      have HPS := Aside0.mk hps
      clear hps hnc
      go_wp2_with fail
      have hsz := HB5.out.size
      have hszw := HZ.out.2.1.size
      have hGlt := blk_lt HZ.out.2.2.2.2.2
      have hz : (w5.setRow (w.heap.size + 1) cs.toArray).heap.size = w5.heap.size := by simp [World.setRow]
      have hFs : Fr (fun k => k = w.heap.size + 1) w5 (w5.setRow (w.heap.size + 1) cs.toArray) := ⟨rfl, rfl, rfl, by rw [hz]; exact Nat.le_refl _, fun k _ hk => setRow_far hk _⟩
      have hW6 : WinAt' w5 base (fun k => ((okb k ∨ w.heap.size ≤ k) ∧ k ≠ w.heap.size + 1) ∧ k < wc.heap.size) B _ := ((HZ.out.1.types HZ.out.2.2.2.2.2 (by decide)).bound).below HB5.out
      refine bodyPost_ret (results_block Try.results64 rfl (setRow_block HG5.out) Try.underlying75 rfl HPS.out) rfl ⟨cs, fun k => wc.heap.size ≤ k ∧ k < w5.heap.size, rfl, ?_, fun k hk => by rw [hz]; omega, ?_, ?_, ?_⟩
      · have hM6 : kPkt.M w5 wc.heap.size (fun k => wc.heap.size ≤ k ∧ k < w5.heap.size) (pktOf ⟨r, ⟨t, p, q, rt⟩, false⟩ false) cs := kPkt.M_mono (fun k hk => ⟨hk.1, hk.2.2.1⟩) (kPkt.M_bound HM5.out)
        exact kPkt.M_lower hszw (kPkt.M_move (fun k hk => setRow_far (by omega) _) hM6)
      · refine (hW6.fr hFs (fun k hk e => hk.1.2 e)).mono (fun k hk => ⟨?_, fun hp => by omega⟩)
        rcases hk.1.1 with h1 | h1
        · exact .inl (hokok k h1)
        · exact .inr ⟨h1, by rw [hz]; omega⟩
      · exact ((HZ.out.2.1.mono (fun k _ hk => hokok k hk)).trans (Fr.of_below (fun _ => False) HB5.out) (fun _ _ e => e.elim)).trans hFs (fun k hk e => by omega)
      · exact setRow_below (HZ.out.2.2.1.trans (HB5.out.mono (by omega))) (by omega) _
end
end Go.Proofs.Ytjccmlmkcjmicaa.Win

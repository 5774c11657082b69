/- crierlaw4.known's calls in plain Lean. No statement of the program. A list whose things lie in another world's memory (handed in): its own block, the things read there. No statement of the program. crierlaw4's heard.hears: Next till it answers no packet. No statement of the program. crierlaw4's heard.same of what was heard alike. No statement of the program. crierlaw4.known: chapter 4's example holds. No statement of the program. FrameCuts: what holds between two pieces. No statement of the program. FrameCuts' walk: no cut shows. No statement of the program. -/
import Derived.Test.YthlbcgaegaoanaaDoorMDec
import Derived.Test.YthlbcgaegaoanaaDoorMPk
import Derived.Test.YthlbcgaegaoanaaDoorMFrm
import Derived.Great.BuildSlice
import Derived.Test.YthlbcgaegaoanaaDoorMSame
namespace Go.Proofs.YthlbcgaegaoanaaDoor.Cr
open Go Go.RowKit Go.Proofs.YthlbcgaegaoanaaDoorW.PrintWords Go.Proofs.YthlbcgaegaoanaaDoorW.PrintLast Go.Proofs.YthlbcgaegaoanaaDoorW.PrintMore Go.Proofs.YthlbcgaegaoanaaDoor.Kinds Go.Proofs.YthlbcgaegaoanaaDoor.Utf Go.Proofs.YthlbcgaegaoanaaDoor.Chk Go.Proofs.YthlbcgaegaoanaaDoor.Rdr
def pingP : Pkt := { noPkt with kind := 12 }
theorem k4a : (FrS.new.put [192]) = ⟨[192], 0, none⟩ := rfl
theorem k4b : FrS.next 100 ⟨[192], 0, none⟩ = (⟨noPkt, false, none⟩, ⟨[192], 0, none⟩) := by kernel_rfl
theorem k4c : (FrS.put ⟨[192], 0, none⟩ [0, 192, 0, 224]) = ⟨[192, 0, 192, 0, 224], 0, none⟩ := rfl
theorem k4d : FrS.next 100 ⟨[192, 0, 192, 0, 224], 0, none⟩ = (⟨pingP, true, none⟩, ⟨[192, 0, 224], 2, none⟩) := by kernel_rfl
theorem k4e : FrS.next 100 ⟨[192, 0, 224], 2, none⟩ = (⟨pingP, true, none⟩, ⟨[224], 4, none⟩) := by kernel_rfl
theorem k4f : (FrS.put ⟨[224], 4, none⟩ [1, 7]) = ⟨[224, 1, 7], 4, none⟩ := rfl
theorem k4g : FrS.next 100 ⟨[224, 1, 7], 4, none⟩ = (⟨noPkt, false, some (6, 15)⟩, ⟨[], 4, some (6, 15)⟩) := by kernel_rfl
theorem k4h : (FrS.put ⟨[], 4, some (6, 15)⟩ [192, 0]) = ⟨[], 4, some (6, 15)⟩ := rfl
end Go.Proofs.YthlbcgaegaoanaaDoor.Cr

namespace Go.Proofs.YthlbcgaegaoanaaDoor.Cr
open Go Go.RowKit Go.Proofs.YthlbcgaegaoanaaDoorW.PrintWords Go.Proofs.YthlbcgaegaoanaaDoorW.PrintLast Go.Proofs.YthlbcgaegaoanaaDoorW.PrintMore Go.Proofs.YthlbcgaegaoanaaDoor.Kinds Go.Proofs.YthlbcgaegaoanaaDoor.Utf Go.Proofs.YthlbcgaegaoanaaDoor.Chk Go.Proofs.YthlbcgaegaoanaaDoor.Rdr
set_option linter.unusedVariables false
set_option linter.unusedSimpArgs false
def kOf (w0 : World) : Kd Pkt where
  sz := 25
  E := []
  K := fun w p cs => kPkt.K w0 p cs
  M := fun w base ok p cs => kPkt.K w0 p cs
  K_len := fun h => kPkt.K_len h
  K_one := fun h => kPkt.K_one h
  K_below := fun _ h => h
  K_of_M := fun h => h
  M_mono := fun _ h => h
  M_bound := fun h => h
  M_move := fun _ h => h
  M_lower := fun _ h => h
theorem Kd.R_toOf {w : World} {e base : Nat} {ok : Nat → Prop} {v : Value} {l : List Pkt} (h : kPkt.R e w base ok v l) : (kOf w).R e w base ok v l := by
  obtain ⟨h0, inner, ho, hr⟩ := h
  exact ⟨h0, inner, ho, hr.imp_ (fun _ _ hp => kPkt.K_of_M hp)⟩
theorem Kd.R_ofBelow {w0 w w1 : World} {e base : Nat} {ok : Nat → Prop} {v : Value} {l : List Pkt} (h : (kOf w0).R e w base ok v l) (hb : Below w0.heap.size w0 w1) : (kOf w1).R e w base ok v l := by
  obtain ⟨h0, inner, ho, hr⟩ := h
  exact ⟨h0, inner, ho, hr.imp_ (fun _ _ hp => kPkt.K_below hb hp)⟩
theorem cell_keepK {w w' : World} {n : Nat} (hn : n = w.heap.size) (hb : Below n w w') (p : Addr) (v : Value) (h : w.cell? p = some v) : w'.cell? p = some v := by
  subst hn
  have hlt : p.block < w.heap.size := by
    refine Classical.byContradiction (fun hn => ?_)
    unfold World.cell? at h
    rw [Array.getElem?_eq_none (by omega)] at h
    cases h
  exact (hb.cell (p := p) hlt).trans h
end Go.Proofs.YthlbcgaegaoanaaDoor.Cr

namespace Go.Proofs.YthlbcgaegaoanaaDoor.Cr
open Go Go.RowKit Go.Proofs.YthlbcgaegaoanaaDoorW.PrintWords Go.Proofs.YthlbcgaegaoanaaDoorW.PrintLast Go.Proofs.YthlbcgaegaoanaaDoorW.PrintMore Go.Proofs.YthlbcgaegaoanaaDoor.Kinds Go.Proofs.YthlbcgaegaoanaaDoor.Utf Go.Proofs.YthlbcgaegaoanaaDoor.Chk Go.Proofs.YthlbcgaegaoanaaDoor.Rdr
set_option linter.unusedVariables false
set_option linter.unusedSimpArgs false
theorem buildOne_ {P : Program} {ops : Array Oper} {oi : Oper} {a : Act} {w : World} {K : Act → World → Prop} {Q : Exit → Act → World → Prop} (hw : Region.wanted oi (yielded ops a.tmps) = true) (t e : TypeId) (x : Operand) (ho : oi.op = .buildSlice t 1 #[(0, x)])
    (cs : List Value) (hx : a.eval x = .agg cs.toArray) (z : Value) (sz bytes : Nat) (hu : P.underlying t = some (.slice e)) (hinfo : (P.info? e).map (fun i => (i.zero, i.size, i.bytes)) = some (some z, sz, bytes)) (hz : z.cells.size = sz) (hl : cs.length = sz) (h0 : 0 < sz) (hsm : sz ≤ 2 ^ 24)
    (h : K (a.put oi.dst (.slice (some ⟨w.heap.size, 0, none⟩) 1 1)) (w.alloc (.cells cs.toArray e))) : if Region.wanted oi (yielded ops a.tmps) = true then Oper.wp P oi a w K Q else K (a.put oi.dst undef) w := by
  rw [if_pos hw]
  obtain ⟨ie, hi, hzz⟩ := Option.map_eq_some_iff.1 hinfo
  simp only [Prod.mk.injEq] at hzz
  obtain ⟨hz0, hz1, hz2⟩ := hzz
  refine wp_buildSlice t e 1 _ ho cs.toArray ie z hu hi hz0 (by rw [hz1]; omega) (by rw [hz1]; omega) ?_ h
  have hf := Great.fill_whole (s := ie.size) (by omega) [.agg cs.toArray] ((Array.range (1 * ie.size)).map (z.cells[· % z.cells.size]!)) (by simp [Value.cells, hl, hz1]) (by simp)
  simpa [hx, Value.cells] using hf
theorem infoPkt : (Tryd.prog.info? 43).map (fun i => (i.zero, i.size, i.bytes)) = some (some (.agg noCells), 25, 328) := by kernel_rfl
structure HdIs (w : World) (z nb H : Nat) (h : HS) : Prop where
  ex : ∃ A c, w.heap[H]? = some (.cells #[.slice A h.l.length c, .int .i64 (toldP h.last).1, .int .i64 (toldP h.last).2, .bool false] 32 (0, 0)) ∧ kPkt.R 43 w z (fun k => k ≠ nb) (.slice A h.l.length c) h.l
def okH (F H z nb : Nat) : Nat → Prop := fun k => k = F ∨ k = H ∨ (z ≤ k ∧ k ≠ nb)
section
variable {w w1 w2 : World} {base F H z nb : Nat} {most : Int} {s : FrS} {h : HS}
theorem HdIs.lt (hd : HdIs w z nb H h) : H < w.heap.size := by
  obtain ⟨A, c, h1, _⟩ := hd.ex
  exact blk_lt h1
theorem HdIs.frTo {ok : Nat → Prop} (hd : HdIs w z nb H h) (hf : Fr ok w w1) (hn : ∀ k, k < w.heap.size → ok k → k ≠ H ∧ (k < z ∨ k = nb)) {nb' : Nat} (hb : w.heap.size ≤ nb' ∨ nb' = nb ∨ nb' < z) : HdIs w1 z nb' H h := by
  obtain ⟨A, c, h1, h2⟩ := hd.ex
  refine ⟨A, c, (hf.block H (blk_lt h1) (fun e => (hn H (blk_lt h1) e).1 rfl)).trans h1, Kd.R_mono (Kd.R_move (Kd.R_bound h2) (fun k hk => hf.block k hk.2.2.1 (fun e => ?_))) (fun k hk e => ?_)⟩
  · have h4 := (hn k hk.2.2.1 e).2
    have h5 := hk.1
    have h6 := hk.2.1
    rcases h4 with h4 | h4
    · omega
    · exact h5 h4
  · have h5 := hk.1
    have h6 := hk.2.1
    have h7 := hk.2.2.1
    rcases hb with hb | hb | hb
    · omega
    · exact h5 (e.trans hb)
    · omega
theorem HdIs.fr {ok : Nat → Prop} (hd : HdIs w z nb H h) (hf : Fr ok w w1) (hn : ∀ k, k < w.heap.size → ok k → k ≠ H ∧ (k < z ∨ k = nb)) : HdIs w1 z nb H h := hd.frTo hf hn (.inr (.inl rfl))
theorem HdIs.below (hd : HdIs w z nb H h) (hb : Below w.heap.size w w1) : HdIs w1 z nb H h := hd.fr (Fr.of_below (fun _ => False) hb) (fun _ _ e => e.elim)
theorem FrIs.setH (hf : FrIs w base F most s) {cells : Array Value} (hH : w.heap[H]? = some (.cells cells 32 (0, 0))) (j : Nat) (u : Value) : FrIs (w.setCell ⟨H, j, none⟩ u) base F most s :=
  hf.fr ((Fr.refl (fun k => k = H) w).setCell (p := ⟨H, j, none⟩) (fun _ => rfl) u) (fun k hk e => ⟨_, _, e ▸ hH, by decide, by decide, by decide⟩)
end
structure HrAt (w0 w : World) (base F H z nb : Nat) (most : Int) (s1 : FrS) (h1 : HS) (wr : World) : Prop where
  fr : FrIs wr base F most s1
  hd : HdIs wr z nb H h1
  mv : Fr (okH F H z nb) w wr
  bel : Below w0.heap.size w0 wr
  nz : NZ s1.err
  bnd : h1.l.length + (s1.all most).1.length ≤ 100000 ∧ s1.b.length ≤ 1099511627770
  sz : z ≤ wr.heap.size
theorem HrAt.grow {w0 w W w2 : World} {base F H z nb : Nat} {most : Int} {A A1 : Option Addr} {c c1 : Nat} {l : List Pkt} {p : Pkt} {f : Option (Int × Int)} {s2 : FrS}
    (hlo : w0.heap.size ≤ F ∧ w0.heap.size ≤ H ∧ w0.heap.size ≤ z ∧ F < z ∧ H < z ∧ F ≠ H ∧ nb < w.heap.size)
    (hF : FrIs W base F most s2) (hH : W.heap[H]? = some (.cells #[.slice A l.length c, .int .i64 (toldP f).1, .int .i64 (toldP f).2, .bool false] 32 (0, 0))) (hR : kPkt.R 43 W z (fun k => k ≠ nb) (.slice A l.length c) l)
    (hmv : Fr (okH F H z nb) w W) (hbel : Below w0.heap.size w0 W) (hnz : NZ s2.err) (hbnd : l.length + 1 + (s2.all most).1.length ≤ 100000 ∧ s2.b.length ≤ 1099511627770) (hsz : z ≤ W.heap.size)
    {v1 : Value} (hq : kPkt.R 43 w2 z (fun k => k ≠ nb) v1 (l ++ [p])) (hg : W.drew.grownBy w2 (Value.slice A l.length c).ownBlock) (N : Nat) (hN : N = (l ++ [p]).length) (hv : v1 = .slice A1 N c1) :
    HrAt w0 w base F H z nb most s2 ⟨l ++ [p], f⟩ (w2.setCell ⟨H, 0, none⟩ (.slice A1 N c1)) := by
  subst hv hN
  have hf : Fr (fun k => some k = (Value.slice A l.length c).ownBlock) W w2 := ((Fr.refl (fun _ => False) W).drew.mono (fun _ _ e => e.elim)).trans (ok' := fun k => some k = (Value.slice A l.length c).ownBlock) ⟨hg.os, hg.tape, hg.output, hg.size, fun k hk hn => hg.block k hk hn⟩ (fun _ _ e => e)
  have hty : ∀ k, some k = (Value.slice A l.length c).ownBlock → z ≤ k ∧ k ≠ nb ∧ ∃ cells, W.heap[k]? = some (.cells cells 43 (0, 0)) := fun k e => by
    obtain ⟨_, ho⟩ := Kd.R_own hR
    exact ⟨own_base ho k e.symm, hR.1 k e.symm, own_typed ho k e.symm⟩
  have hH2 : w2.heap[H]? = some (.cells #[.slice A l.length c, .int .i64 (toldP f).1, .int .i64 (toldP f).2, .bool false] 32 (0, 0)) := (hf.block H (blk_lt hH) (fun e => by have := (hty H e).1; omega)).trans hH
  have hF2 : FrIs w2 base F most s2 := hF.fr hf (fun k hk e => by
    obtain ⟨cells, hc⟩ := (hty k e).2.2
    exact ⟨cells, _, hc, by decide, by decide, by decide⟩)
  have hS : Fr (fun k => k = H) w2 (w2.setCell ⟨H, 0, none⟩ (.slice A1 (l ++ [p]).length c1)) := (Fr.refl (fun k => k = H) w2).setCell (p := ⟨H, 0, none⟩) (fun _ => rfl) _
  refine ⟨hF2.setH hH2 0 _, ⟨A1, c1, blk_set hH2 0 _, ?_⟩, ?_, ?_, hnz, ?_, Nat.le_trans hsz (Nat.le_trans hf.size hS.size)⟩
  · exact Kd.R_mono (Kd.R_move (Kd.R_bound hq) (fun k hk => hS.block k hk.2.2.1 (fun e => by have := hk.2.1; omega))) (fun k hk => hk.1)
  · exact (hmv.trans hf (fun k _ e => .inr (.inr ⟨(hty k e).1, (hty k e).2.1⟩))).trans hS (fun k _ e => .inr (.inl e))
  · exact hS.below (hf.below hbel (fun k e => Nat.le_trans hlo.2.2.1 (hty k e).1) hbel.size) (fun k e => by subst e; exact hlo.2.1) (Nat.le_trans hbel.size hf.size)
  · rw [List.length_append, List.length_singleton]
    exact hbnd
set_option maxRecDepth 100000 in
set_option maxHeartbeats 4000000 in
theorem hears_any {w0 w : World} {base F H z nb : Nat} {most : Int} {s : FrS} {h : HS} (hg : Gl w0) (hh : HrAt w0 w base F H z nb most s h w) (hlo : w0.heap.size ≤ F ∧ w0.heap.size ≤ H ∧ w0.heap.size ≤ z ∧ F < z ∧ H < z ∧ F ≠ H ∧ nb < w.heap.size) (n : Int) (K : Nat) (hn : (n = (K : Int) ∧ K ≤ 5) ∨ (n = -1 ∧ s.b.length < K ∧ K ≤ 1099511627780)) :
    Calls Tryd.prog 7 #[.pointer (some ⟨H, 0, none⟩), .pointer (some ⟨F, 0, none⟩), .int .i64 n] w fun e w' => e = .returned (.tuple #[]) ∧ HrAt w0 w base F H z nb most (hearK most K s h).2 (hearK most K s h).1 w' := by
  obtain ⟨r0, hr0⟩ : ∃ r0, r0 = hearK most K s h := ⟨_, rfl⟩
  rw [← hr0]
  have HG := Aside0.mk hg
  have HH := Aside0.mk hh
  have HLO := Aside0.mk hlo
  have HR0 := Aside0.mk (show hearK most K s h = r0 from hr0.symm)
  clear hg hh hr0 hlo
  go_enter Tryd.func7, Tryd.ntmps7
  go_wp2_with fail
  go_loopg [2] K (fun q i wr => ∃ (k : Nat) (s1 : FrS) (h1 : HS), i = .int .i64 (n - (k : Int)) ∧ k + q = K ∧ (n = -1 → s1.b.length < q) ∧ Aside0 (HrAt w0 w base F H z nb most s1 h1 wr) ∧ Aside0 (hearK most q s1 h1 = r0))
  case atStart => exact ⟨0, s, h, by simp, by omega, by omega, HH, HR0⟩
  case round =>
    obtain ⟨k, s1, h1, rfl, hkq, hlt, HA, HE⟩ := hrel
    clear HH HR0
    cases gk with
    | zero =>
      have t0 : ((n - (k : Int)) != 0) = false := by
        rcases hn with hn | hn
        · simp; omega
        · have := hlt hn.1; omega
      have HE0 := Aside0.mk (show (h1, s1) = r0 from HE.out)
      clear hkq hlt hn HE
      go_wp2
      go_end0
      exact ⟨rfl, by rw [← HE0.out]; exact HA.out⟩
    | succ q1 =>
      have t0 : ((n - (k : Int)) != 0) = true := by
        rcases hn with hn | hn <;> simp <;> omega
      have ek : wrap64 (n - (k : Int) - 1) = n - ((k + 1 : Nat) : Int) := by
        rcases hn with hn | hn <;> unfold wrap64 <;> omega
      obtain ⟨r, hr⟩ : ∃ r, s1.next most = r := ⟨_, rfl⟩
      have HRR := Aside0.mk hr
      have HKQ := Aside0.mk (And.intro hkq (And.intro hlt hn))
      have HGR := Aside0.mk (HG.out.below HA.out.bel HG.out.sz HA.out.bel.size)
      have HEQ := Aside0.mk (show (if r.1.ok then hearK most q1 r.2 ⟨h1.l ++ [r.1.p], r.1.f⟩ else (⟨h1.l, r.1.f⟩, r.2)) = r0 by rw [← HE.out]; simp only [hearK]; rw [hr])
      have HNZ := Aside0.mk (show NZ r.1.f ∧ NZ r.2.err by rw [← hr]; exact FrS.nz_next HA.out.nz)
      clear hkq hlt hn HE hr
      go_upto_region 3 with (first
        | (go_at_call 10; (with_reducible refine (frmNext_any HGR.out HA.out.fr (HA.out.bnd.2)).mono ?_); rintro e w4 ⟨cs4, ev4, rfl, hM, hE, hF, hFr⟩; rw [HRR.out] at hM hE hF; have HM4 := Aside0.mk (And.intro hM (pk_open hM)); have HE4 := Aside0.mk hE; have HF4 := Aside0.mk (And.intro hF hFr); clear hM hE hF hFr; rw [HRR.out]; dsimp only)
        | (refine wpList_store_row rfl 43 _ _ rfl w4.heap.size _ rfl rfl 43 _ (heap_alloc_new w4 (.cells noCells 43)) HM4.out.2.1 HM4.out.2.2.1 HM4.out.2.2.2.1 ?_))
      obtain ⟨B, hB⟩ : ∃ B, B = w4.heap.size := ⟨_, rfl⟩
      obtain ⟨W5, hW5⟩ : ∃ W : World, W = (w4.alloc (.cells noCells 43)).setRow w4.heap.size cs4.toArray := ⟨_, rfl⟩
      have hn5 := pk_new w4 cs4
      rw [← hW5] at hn5
      have HB5 := Aside0.mk (show W5.heap[B]? = some (.cells cs4.toArray 43 (0, 0)) by rw [hB]; exact hn5.1)
      have HM5 := Aside0.mk (Kd.M_below HM4.out.1 hn5.2)
      have HE5 := Aside0.mk (ev_below HE4.out hn5.2)
      have HF5 := Aside0.mk (HF4.out.1.below hn5.2)
      have HFr5 := Aside0.mk (show Fr (fun k => k = F) wr W5 from HF4.out.2.trans (Fr.of_below (fun _ => False) hn5.2) (fun _ _ e => e.elim))
      have HO := Aside0.mk HM4.out.2
      have HBG := Aside0.mk (show wr.heap.size ≤ B by rw [hB]; exact HF4.out.2.size)
      refine wp_wld (w2 := W5) (by rw [hW5]; rfl) ?_
      rw [← hB]
      clear hB hW5 hn5 HM4 HE4 HF4
      obtain ⟨⟨a1, a2⟩, ht1⟩ : ∃ t, t = toldP r.1.f := ⟨_, rfl⟩
      have HT := Aside0.mk ht1
      clear ht1
      go_upto_region 4 with (go_at_call 11; (with_reducible refine (told4_any HE5.out HNZ.out.1).mono ?_); rintro e w6 ⟨rfl, hB⟩; rw [← HT.out]; have HB6 := Aside0.mk hB; clear hB; dsimp only)
      obtain ⟨T, hT⟩ : ∃ T, T = w6.heap.size := ⟨_, rfl⟩
      obtain ⟨W7, hW7⟩ : ∃ W : World, W = w6.alloc (.cells #[.int .i64 a1, .int .i64 a2] 30) := ⟨_, rfl⟩
      have HT7 := Aside0.mk (show W7.heap[T]? = some (.cells #[.int .i64 a1, .int .i64 a2] 30 (0, 0)) by rw [hW7, hT]; exact heap_alloc_new w6 _)
      have hb7 : Below W5.heap.size W5 W7 := by rw [hW7]; exact HB6.out.trans ((below_alloc (Below.refl _ _) _).mono HB6.out.size)
      obtain ⟨Ah, ch, hHw, hRw⟩ := HA.out.hd.ex
      have hH5 := (HFr5.out.block H (blk_lt hHw) (fun e => by have := HLO.out; omega)).trans hHw
      have hR5 : kPkt.R 43 W5 z (fun k => k ≠ nb) (.slice Ah h1.l.length ch) h1.l := Kd.R_mono (Kd.R_move (Kd.R_bound hRw) (fun k hk => HFr5.out.block k hk.2.2.1 (fun e => by have := HLO.out; have := hk.2.1; omega))) (fun k hk => hk.1)
      have HHW := Aside0.mk hRw
      have HBEL := Aside0.mk (show Below w0.heap.size w0 W7 from (HFr5.out.below HA.out.bel (fun k e => by have := HLO.out; subst e; exact this.1) HA.out.bel.size).trans (hb7.mono (Nat.le_trans HA.out.bel.size HFr5.out.size)))
      have HH7 := Aside0.mk ((hb7.block _ (blk_lt hH5)).trans hH5)
      have HR7 := Aside0.mk (Kd.R_below hR5 hb7)
      have HBK7 := Aside0.mk ((hb7.block _ (blk_lt HB5.out)).trans HB5.out)
      have HM7 := Aside0.mk (Kd.M_below HM5.out hb7)
      have HF7 := Aside0.mk (HF5.out.below hb7)
      have HFr7 := Aside0.mk (show Fr (okH F H z nb) w W7 from (HA.out.mv.trans HFr5.out (fun k _ e => .inl e)).trans (Fr.of_below (fun _ => False) hb7) (fun _ _ e => e.elim))
      have HWR := Aside0.mk (show wr.heap.size ≤ W5.heap.size ∧ wr.heap.size ≤ T ∧ z ≤ wr.heap.size ∧ H < wr.heap.size ∧ W5.heap.size ≤ W7.heap.size from ⟨HFr5.out.size, by rw [hT]; exact Nat.le_trans HFr5.out.size HB6.out.size, HA.out.sz, HA.out.hd.lt, hb7.size⟩)
      refine wp_wld (w2 := W7) (by rw [hW7]) ?_
      rw [← hT]
      have x0 : W7.cell? ⟨H, 0, none⟩ = some (.slice Ah h1.l.length ch) := blk_cell HH7.out 0
      have x3 : W7.cell? ⟨H, 3, none⟩ = some (.bool false) := blk_cell HH7.out 3
      have xf : W7.frozen? ⟨H, 3, none⟩ = false := blk_frozen HH7.out 3
      have y1 : W7.cell? ⟨T, 1, none⟩ = some (.int .i64 a2) := blk_cell HT7.out 1
      have tl : decide ((h1.l.length : Int) > 100000) = false := decide_eq_false (by have := HA.out.bnd.1; omega)
      have tl2 : decide (100000 < (h1.l.length : Int)) = false := decide_eq_false (by have := HA.out.bnd.1; omega)
      obtain ⟨ok, hok⟩ : ∃ ok, ok = r.1.ok := ⟨_, rfl⟩
      have HOK := Aside0.mk hok
      have HA2 := Aside0.mk (show ok = true → a2 = 0 from fun e => by
        have h := (FrS.next_ok HA.out.fr.ok most (by rw [HRR.out, ← hok]; exact e) []).1
        rw [HRR.out] at h
        have ht := HT.out
        rw [h] at ht
        simp [toldP] at ht
        exact ht.2)
      rw [← hok]
      clear hok hb7 hHw hRw hH5 hR5 hT hW7
      have HTH := Aside0.mk (show H ≠ T by have := HWR.out; omega)
      have HT8 := Aside0.mk (blk_far HT7.out (p := ⟨H, 3, none⟩) (show T ≠ H from HTH.out.symm) (.bool false))
      have HH8 := Aside0.mk (show (W7.setCell ⟨H, 3, none⟩ (.bool false)).heap[H]? = _ from blk_set HH7.out 3 (.bool false))
      have HZ8 := Aside0.mk (show (W7.setCell ⟨H, 3, none⟩ (.bool false)).heap.size = W7.heap.size by simp)
      have ta : (ok && a2 != 0) = false := by
        have h := HA2.out
        revert h
        cases ok
        · intro _; rfl
        · intro h; rw [h rfl]; rfl
      cases ok
      all_goals
        try have ta2 : (a2 != 0) = false := ta
        go_upto_region 5 with fail
        obtain ⟨W8, hW8⟩ : ∃ W : World, W = W7.setCell ⟨H, 3, none⟩ (.bool false) := ⟨_, rfl⟩
        have hHT := HTH.out
        have HT8' := HT8.out
        have HH8' := HH8.out
        rw [← hW8] at HT8' HH8'
        rw [← hW8]
        clear x0 x3 xf y1 tl tl2
        have z3 : W8.cell? ⟨H, 3, none⟩ = some (.bool false) := blk_cell HH8' 3
        have z1 : W8.cell? ⟨H, 1, none⟩ = some (.int .i64 (toldP h1.last).1) := blk_cell HH8' 1
        have z2 : W8.cell? ⟨H, 2, none⟩ = some (.int .i64 (toldP h1.last).2) := blk_cell HH8' 2
        have y0 : W8.cell? ⟨T, 0, none⟩ = some (.int .i64 a1) := blk_cell HT8' 0
        have y1 : W8.cell? ⟨T, 1, none⟩ = some (.int .i64 a2) := blk_cell HT8' 1
        have f1 : W8.frozen? ⟨H, 1, none⟩ = false := blk_frozen HH8' 1
        have f2 : W8.frozen? ⟨H, 2, none⟩ = false := blk_frozen HH8' 2
        have HW8 := Aside0.mk hW8
        have HH8b := Aside0.mk HH8'
        clear hW8 HH8' HT8'
        go_upto_region 7 with fail
      all_goals
        obtain ⟨W9, hW9⟩ : ∃ W : World, W = (W8.setCell ⟨H, 1, none⟩ (.int .i64 a1)).setCell ⟨H, 2, none⟩ (.int .i64 a2) := ⟨_, rfl⟩
        have hH9 : W9.heap[H]? = some (.cells #[.slice Ah h1.l.length ch, .int .i64 a1, .int .i64 a2, .bool false] 32 (0, 0)) := by rw [hW9]; exact blk_set (blk_set HH8b.out 1 _) 2 _
        have hZ9 : Fr (fun k => k = H) W7 W9 := by
          rw [hW9, HW8.out]
          exact (((Fr.refl (fun k => k = H) W7).setCell (p := ⟨H, 3, none⟩) (fun _ => rfl) _).setCell (p := ⟨H, 1, none⟩) (fun _ => rfl) _).setCell (p := ⟨H, 2, none⟩) (fun _ => rfl) _
        have hHz : H < z := HLO.out.2.2.2.2.1
        have HR9 := Aside0.mk (show kPkt.R 43 W9 z (fun k => k ≠ nb) (.slice Ah h1.l.length ch) h1.l from Kd.R_mono (Kd.R_move (Kd.R_bound HR7.out) (fun k hk => hZ9.block k hk.2.2.1 (fun e => by have := hk.2.1; omega))) (fun k hk => hk.1))
        have HF9 := Aside0.mk (show FrIs W9 base F most r.2 from HF7.out.fr hZ9 (fun k hk e => by subst e; exact ⟨_, _, HH7.out, by decide, by decide, by decide⟩))
        have HFr9 := Aside0.mk (show Fr (okH F H z nb) w W9 from HFr7.out.trans hZ9 (fun k _ e => .inr (.inl e)))
        have HBL9 := Aside0.mk (show Below w0.heap.size w0 W9 from hZ9.below HBEL.out (fun k e => by have := HLO.out; subst e; exact this.2.1) HBEL.out.size)
        have HZW := Aside0.mk (show z ≤ wr.heap.size ∧ wr.heap.size ≤ W9.heap.size ∧ nb < wr.heap.size from by
          have h1 := HWR.out
          have h2 := hZ9.size
          have h3 := HLO.out.2.2.2.2.2.2
          have h4 := HA.out.mv.size
          omega)
        have HBK9 := Aside0.mk ((hZ9.block B (blk_lt HBK7.out) (fun e => by have h1 := HBG.out; have h2 := HWR.out; omega)).trans HBK7.out)
        have HM9 := Aside0.mk (show kPkt.M W9.drew z (fun k => wr.heap.size ≤ k) r.1.p cs4 from kPkt.M_lower HZW.out.1 (kPkt.M_mono (fun k hk => hk.2.1) (kPkt.M_bound (Kd.M_below (kPkt.M_mono (fun _ _ => trivial) (kPkt.M_move (fun k hk => hZ9.block k hk.2.2.1 (fun e => by have := hk.2.1; have := HWR.out; omega)) (kPkt.M_bound HM7.out))) (below_drew (Below.refl W9.heap.size W9))))))
        have HH9 := Aside0.mk hH9
        have HBN := Aside0.mk (show h1.l.length + (r.2.all most).1.length + (if r.1.ok then 1 else 0) ≤ 100000 ∧ r.2.b.length ≤ 1099511627770 ∧ (r.1.ok = true → r.2.b.length + 2 ≤ s1.b.length) by
          have h1 := FrS.all_step (most := most) HA.out.fr.ok
          have h2 := HA.out.bnd
          have h3 := fun e => (FrS.next_ok HA.out.fr.ok most e []).2.2.2.2.1
          rw [HRR.out] at h1 h3
          refine ⟨by omega, by omega, h3⟩)
        refine wp_wld (w2 := W9) (by rw [hW9]) ?_
        clear hW9 hH9 hZ9 hHz hHT z1 z2 z3 y0 y1 f1 f2 HT8 HH8 HW8 HH8b HBK7 HM7 HF7 HFr7 HR7 HBEL HH7 HT7 HTH
      · have HREQ := Aside0.mk (show r0 = (⟨h1.l, r.1.f⟩, r.2) by have := HEQ.out; rw [← HOK.out] at this; simpa using this.symm)
        have hto := HT.out
        clear HA2 ta
        go_wp2_with fail
        (try simp only [Exit.inBlock, Exit.then])
        refine bodyPost_ret (results_none rfl _ _ _) rfl ?_
        rw [HREQ.out]
        exact ⟨rfl, HF9.out, ⟨Ah, ch, by dsimp only; rw [← hto]; exact HH9.out, HR9.out⟩, HFr9.out, HBL9.out, HNZ.out.2, by have := HBN.out; exact ⟨by dsimp only; omega, this.2.1⟩, Nat.le_trans HZW.out.1 HZW.out.2.1⟩
      · have HREQ := Aside0.mk (show hearK most q1 r.2 ⟨h1.l ++ [r.1.p], r.1.f⟩ = r0 by have := HEQ.out; rw [← HOK.out] at this; simpa using this)
        have hk4 := kPkt.K_of_M HM9.out
        have HZL := Aside0.mk (pkt_szL hk4)
        have HCL := Aside0.mk (show cs4.length = 25 from kPkt.K_len hk4)
        have HBL := Aside0.mk (blk_lt HBK9.out)
        have x0 : W9.cell? ⟨H, 0, none⟩ = some (.slice Ah h1.l.length ch) := blk_cell HH9.out 0
        have xb : W9.rangeAt B 0 cs4 := pkt_range HBK9.out
        have HZ9 := Aside0.mk (show z ≤ W9.drew.heap.size from Nat.le_trans HZW.out.1 HZW.out.2.1)
        have HNB := Aside0.mk (show nb < W9.drew.heap.size ∧ nb < wr.heap.size from ⟨Nat.lt_of_lt_of_le HZW.out.2.2 HZW.out.2.1, HZW.out.2.2⟩)
        have HBND := Aside0.mk (show h1.l.length ≤ 100000 by have := HBN.out; omega)
        clear ta HA2 hk4
        try clear ta2
        go_upto_region 8 with fail
        refine start_ (n := 11) (S := fun w' => w'.cell? ⟨H, 0, none⟩ = some (.slice Ah h1.l.length ch) ∧ w'.rangeAt B 0 cs4) (ds := [7, 10]) #[false, false, false, false, false, false, false, false, false, false, false] (by kernel_rfl) rfl rfl ⟨x0, xb⟩ (fun hHeld => ?_)
        refine pure_ (i := 0) (N := some 63) (v := ?_) (a' := ?_) #[true, false, false, false, false, false, false, false, false, false, false] rfl rfl (by kernel_rfl) (fun _ _ _ h => h) (Or.inl ⟨by rfl, ?_⟩) ?_ ?_
        rotate_left
        · intro w'
          go_simp
          with_reducible rfl
        rotate_left
        · simp only [Act.put, List.setIfInBounds_toArray, List.set_cons_zero, List.set_cons_succ, i64_w, i32_w]
          rfl
        refine pure_ (i := 1) (N := some 64) (v := ?_) (a' := ?_) #[true, true, false, false, false, false, false, false, false, false, false] rfl rfl (by kernel_rfl) (fun _ _ _ h => h) (Or.inl ⟨by rfl, ?_⟩) ?_ ?_
        rotate_left
        · intro w'
          go_simp
          with_reducible rfl
        rotate_left
        · simp only [Act.put, List.setIfInBounds_toArray, List.set_cons_zero, List.set_cons_succ, i64_w, i32_w]
          rfl
        refine pure_ (i := 2) (N := some 65) (v := ?_) (a' := ?_) #[true, true, true, false, false, false, false, false, false, false, false] rfl rfl (by kernel_rfl) (fun _ _ _ h => h) (Or.inl ⟨by rfl, ?_⟩) ?_ ?_
        rotate_left
        · intro w'
          go_simp
          with_reducible rfl
        rotate_left
        · simp only [Act.put, List.setIfInBounds_toArray, List.set_cons_zero, List.set_cons_succ, i64_w, i32_w]
          rfl
        refine pure_ (i := 3) (N := some 66) (v := ?_) (a' := ?_) #[true, true, true, true, false, false, false, false, false, false, false] rfl rfl (by kernel_rfl) (fun _ _ _ h => h) (Or.inl ⟨by rfl, ?_⟩) ?_ ?_
        rotate_left
        · intro w'
          go_simp
          with_reducible rfl
        rotate_left
        · simp only [Act.put, List.setIfInBounds_toArray, List.set_cons_zero, List.set_cons_succ, i64_w, i32_w]
          rfl
        refine take_ (i := 4) (N := some 67) (v := ?_) (a' := ?_) #[true, true, true, true, true, false, false, false, false, false, false] rfl rfl (by kernel_rfl) (fun _ _ _ h => h) (Or.inl ⟨by rfl, ?_⟩) hHeld ?_ ?_
        rotate_left
        · rintro w' ⟨s0, s1⟩
          go_simp
          with_reducible rfl
        rotate_left
        · simp only [Act.put, List.setIfInBounds_toArray, List.set_cons_zero, List.set_cons_succ, i64_w, i32_w]
          rfl
        refine take_ (i := 5) (N := some 68) (v := .agg cs4.toArray) (a' := ?_) #[true, true, true, true, true, true, false, false, false, false, false] rfl rfl (by kernel_rfl) (fun _ _ _ h => h) (yieldsIf_load_mid (by rfl) 43 (.tmp 6) rfl B 0 (by rfl) cs4 _ (fun w' h' => h'.2) Tryd.underlying43 rfl HZL.out) hHeld ?_ ?_
        rotate_left
        · simp only [Act.put, List.setIfInBounds_toArray, List.set_cons_zero, List.set_cons_succ, i64_w, i32_w]
          rfl
        refine one_ (i := 6) (N := some 69) #[true, true, true, true, true, true, true, false, false, false, false] rfl rfl (by kernel_rfl) (by decide) (fun K hK => ?_)
        refine buildOne_ (by rfl) 28 43 (.tmp 68) rfl cs4 rfl (.agg noCells) 25 328 Tryd.underlying28 infoPkt rfl HCL.out (by decide) (by decide) ?_
        refine hK.out _ _ ⟨(World.cell?_alloc_past _ _ _ (blk_lt HH9.out)).trans x0, (fun i u hu => (World.cell?_alloc_past _ _ _ HBL.out).trans (xb i u hu))⟩ (fun hHeld => ?_)
        clear hK K
        refine norm_ (a' := ?_) ?_ ?_
        rotate_left
        · show Act.put _ (some 69) _ = _
          simp only [Act.put, List.setIfInBounds_toArray, List.set_cons_zero, List.set_cons_succ, i64_w, i32_w]
          rfl
        refine last_ (i := 7) (N := some 70) #[true, true, true, true, true, true, true, true, false, false, false] rfl rfl (by kernel_rfl) (by decide) (fun K hK => ?_)
        refine Kd.R_append_step kPkt (w0 := W9.drew) (W := W9.drew) z (by rfl) (.tmp 67) (.tmp 69) 28 43 (.agg noCells) 328 (by rfl) Tryd.underlying28 infoPkt (by rfl) (by decide) (by omega) _ h1.l r.1.p cs4 (fun k => k ≠ nb) (fun k => wr.heap.size ≤ k) (by rfl) (by rfl) ?hp ?okp ?fresh ?HO ?HB ?hbase ?hl ?_
        case hp => exact HM9.out
        case okp => exact fun k hk => ⟨fun e => by have := HNB.out.2; omega, fun e => by obtain ⟨_, ho⟩ := Kd.R_own HHW.out; have := own_lt ho k e.symm; omega⟩
        case fresh => exact fun k hk e => by have := HNB.out.1; omega
        case HO => exact HR9.out
        case HB => exact Below.refl _ _
        case hbase => exact HZ9.out
        case hl => have := HBND.out; omega
        intro v1 w11 hq hbl hg hat
        obtain ⟨A1, c1, hev⟩ := Kd.R_slice hq
        obtain ⟨N1, hN1⟩ : ∃ N1, N1 = (h1.l ++ [r.1.p]).length := ⟨_, rfl⟩
        rw [← hN1] at hev
        subst hev
        have HN1 := Aside0.mk hN1
        clear hN1
        have hH11 := blk_grown (w := W9.drew) HH9.out hg (Kd.R_ne HR9.out HH9.out (by decide))
        have HG11 := Aside0.mk (And.intro hq (And.intro hbl (And.intro hg hH11)))
        have f11 := blk_frozen hH11 0
        have c11 := blk_cell hH11 0
        clear hq hbl hg hat hH11
        refine hK.out _ _ ?_
        clear hK K
        refine norm_ (a' := ?_) ?_ ?_
        rotate_left
        · show Act.put _ (some 70) _ = _
          simp only [Act.put, List.setIfInBounds_toArray, List.set_cons_zero, List.set_cons_succ, i64_w, i32_w]
          rfl
        refine pure_ (i := 8) (N := some 71) (v := ?_) (a' := ?_) #[true, true, true, true, true, true, true, true, true, false, false] rfl rfl (by kernel_rfl) (fun _ _ _ h => h) (Or.inl ⟨by rfl, ?_⟩) ?_ ?_
        rotate_left
        · intro w'
          go_simp
          with_reducible rfl
        rotate_left
        · simp only [Act.put, List.setIfInBounds_toArray, List.set_cons_zero, List.set_cons_succ, i64_w, i32_w]
          rfl
        refine pure_ (i := 9) (N := some 72) (v := ?_) (a' := ?_) #[true, true, true, true, true, true, true, true, true, true, false] rfl rfl (by kernel_rfl) (fun _ _ _ h => h) (Or.inl ⟨by rfl, ?_⟩) ?_ ?_
        rotate_left
        · intro w'
          go_simp
          with_reducible rfl
        rotate_left
        · simp only [Act.put, List.setIfInBounds_toArray, List.set_cons_zero, List.set_cons_succ, i64_w, i32_w]
          rfl
        refine last_ (i := 10) (N := none) #[true, true, true, true, true, true, true, true, true, true, true] rfl rfl (by kernel_rfl) (by decide) (fun K hK => ?_)
        refine skip_ (w1 := ?_) (by rfl) rfl ?_ ?_
        rotate_left
        · go_simp
          rfl
        refine hK.out _ _ ?_
        clear hK K
        refine done_ (by kernel_rfl) ?_
        have hto := HT.out
        have HA12 := Aside0.mk (show HrAt w0 w base F H z nb most r.2 ⟨h1.l ++ [r.1.p], r.1.f⟩ (w11.setCell ⟨H, 0, none⟩ (.slice A1 N1 c1)) from
          HrAt.grow HLO.out HF9.out (by rw [← hto]; exact HH9.out) HR9.out HFr9.out HBL9.out HNZ.out.2 (by
            have h1 := HBN.out
            rw [← HOK.out] at h1
            simp only [if_true] at h1
            exact ⟨by omega, h1.2.1⟩) (Nat.le_trans HZW.out.1 HZW.out.2.1) HG11.out.1 HG11.out.2.2.1 N1 HN1.out rfl)
        have HLS := Aside0.mk (show n = -1 → r.2.b.length < q1 by
          have h1 := HBN.out.2.2 HOK.out.symm
          have h2 := HKQ.out.2.1
          intro e
          have h3 := h2 e
          omega)
        clear hHeld hto x0 xb c11 f11
        go_wp2_with fail
        go_roundg q1
        case measure => exact Nat.lt_succ_self _
        case rel => exact ⟨k + 1, r.2, ⟨h1.l ++ [r.1.p], r.1.f⟩, by first | rfl | rw [ek], by have := HKQ.out.1; omega, HLS.out, HA12, HREQ⟩
end Go.Proofs.YthlbcgaegaoanaaDoor.Cr

namespace Go.Proofs.YthlbcgaegaoanaaDoor.Cr
open Go Go.RowKit Go.Proofs.YthlbcgaegaoanaaDoorW.PrintWords Go.Proofs.YthlbcgaegaoanaaDoorW.PrintLast Go.Proofs.YthlbcgaegaoanaaDoorW.PrintMore Go.Proofs.YthlbcgaegaoanaaDoor.Kinds Go.Proofs.YthlbcgaegaoanaaDoor.Utf Go.Proofs.YthlbcgaegaoanaaDoor.Chk Go.Proofs.YthlbcgaegaoanaaDoor.Rdr
set_option linter.unusedVariables false
set_option linter.unusedSimpArgs false
attribute [local go_sem high] eqFlt
set_option maxRecDepth 100000 in
set_option maxHeartbeats 4000000 in
theorem sameHd_any (l : List Pkt) (hl : l.length ≤ 1000000) (v1 v2 : Value) (t1 t2 : Int) (w : World) (H O b1 b2 : Nat) (ok1 ok2 : Nat → Prop)
    (hH : w.heap[H]? = some (.cells #[v1, .int .i64 t1, .int .i64 t2, .bool false] 32 (0, 0))) (hO : w.heap[O]? = some (.cells #[v2, .int .i64 t1, .int .i64 t2, .bool false] 32 (0, 0)))
    (h1 : (kOf w).R 43 w b1 ok1 v1 l) (h2 : (kOf w).R 43 w b2 ok2 v2 l) :
    Calls Tryd.prog 9 #[.pointer (some ⟨H, 0, none⟩), .pointer (some ⟨O, 0, none⟩)] w fun e w' => e = .returned (.bool true) ∧ Below w.heap.size w w' := by
  obtain ⟨A1, c1, hv1⟩ := Kd.R_slice h1
  obtain ⟨A2, c2, hv2⟩ := Kd.R_slice h2
  subst hv1 hv2
  have HR1 := Aside0.mk h1
  have HR2 := Aside0.mk h2
  have HL := Aside0.mk hl
  have HHO := Aside0.mk (And.intro hH hO)
  have x0 : w.cell? ⟨H, 0, none⟩ = some (.slice A1 l.length c1) := blk_cell hH 0
  have x1 : w.cell? ⟨H, 1, none⟩ = some (.int .i64 t1) := blk_cell hH 1
  have x2 : w.cell? ⟨H, 2, none⟩ = some (.int .i64 t2) := blk_cell hH 2
  have x3 : w.cell? ⟨H, 3, none⟩ = some (.bool false) := blk_cell hH 3
  have y0 : w.cell? ⟨O, 0, none⟩ = some (.slice A2 l.length c2) := blk_cell hO 0
  have y1 : w.cell? ⟨O, 1, none⟩ = some (.int .i64 t1) := blk_cell hO 1
  have y2 : w.cell? ⟨O, 2, none⟩ = some (.int .i64 t2) := blk_cell hO 2
  have y3 : w.cell? ⟨O, 3, none⟩ = some (.bool false) := blk_cell hO 3
  have tl : ((l.length : Int) != (l.length : Int)) = false := by simp
  have tt1 : (t1 == t1) = true := by simp
  have tt2 : (t2 == t2) = true := by simp
  clear h1 h2 hl hH hO
  go_enter Tryd.func9, Tryd.ntmps9
  go_upto_region 1 with fail
  go_quiet (fail)
  go_wp2_with fail
  have HB0 := Aside0.mk (show Below w.heap.size w w.drew from below_drew (Below.refl _ _))
  clear x0 x1 x2 x3 y0 y1 y2 y3
  go_loopg [5] l.length (fun q i wr => ∃ k : Nat, k + q = l.length ∧ i = .int .i64 (k : Int) ∧ Aside0 (Below w.heap.size w wr))
  case atStart => exact ⟨0, by omega, rfl, by first | exact HB0 | exact ⟨by repeat (first | exact Below.refl _ _ | apply below_drew | apply pw_below_drewN)⟩⟩
  case round =>
    obtain ⟨k, hkq, rfl, HB⟩ := hrel
    have hgH := (HB.out.block _ (blk_lt HHO.out.1)).trans HHO.out.1
    have hgO := (HB.out.block _ (blk_lt HHO.out.2)).trans HHO.out.2
    have x0 : wr.cell? ⟨H, 0, none⟩ = some (.slice A1 l.length c1) := blk_cell hgH 0
    have y0 : wr.cell? ⟨O, 0, none⟩ = some (.slice A2 l.length c2) := blk_cell hgO 0
    clear hgH hgO
    rcases Nat.lt_or_ge k l.length with hk | hk
    · have t0 : decide ((k : Int) < (l.length : Int)) = true := decide_eq_true (by omega)
      have hkl := HL.out
      have ek : wrap64 ((k : Int) + 1) = (k : Int) + 1 := by unfold wrap64; omega
      obtain ⟨q1, rfl⟩ : ∃ q1, gk = q1 + 1 := ⟨gk - 1, by omega⟩
      have hp1 := Kd.R_below HR1.out HB.out
      have hp2 := Kd.R_below HR2.out HB.out
      obtain ⟨g1, n1', hx1, _⟩ := Kd.R_form hp1 (by omega)
      obtain ⟨g2, n2', hx2, _⟩ := Kd.R_form hp2 (by omega)
      injection hx1 with a1 a2 a3
      injection hx2 with a4 a5 a6
      subst a1 a4
      first | subst a2 | subst a3
      first | subst a5 | subst a6
      obtain ⟨cs1, _, hM1, hc1, _⟩ := Kd.R_elem hp1 noPkt (k : Int) (by omega) (by omega)
      obtain ⟨cs2, _, hM2, hc2, _⟩ := Kd.R_elem hp2 noPkt (k : Int) (by omega) (by omega)
      simp only [Int.toNat_natCast] at hM1 hc1 hM2 hc2
      have hK1 : kPkt.K w (l.getD k noPkt) cs1 := hM1
      have hK2 : kPkt.K w (l.getD k noPkt) cs2 := hM2
      have HL1 := Aside0.mk (pkt_szL hK1)
      have HL2 := Aside0.mk (pkt_szL hK2)
      have HSM := Aside0.mk (same_any (l.getD k noPkt) cs1 cs2 wr.drew (kPkt.K_below (below_drew HB.out) hK1) (kPkt.K_below (below_drew HB.out) hK2))
      have HC12 := Aside0.mk (show wr.rangeAt g1 (k * 25) cs1 ∧ wr.rangeAt g2 (k * 25) cs2 from ⟨hc1, hc2⟩)
      have HKQ := Aside0.mk hkq
      have hki : (k : Int) < (l.length : Int) := by omega
      have hk0 : (0 : Int) ≤ (k : Int) := by omega
      clear hM1 hM2 hK1 hK2 hp1 hp2 hc1 hc2 hkq hk hkl
      go_upto_region 6 with fail
      have hc1 := HC12.out.1
      have hc2 := HC12.out.2
      refine start_ (n := 16) (S := fun w' => w'.cell? ⟨H, 0, none⟩ = some (.slice (some ⟨g1, 0, none⟩) l.length c1) ∧ w'.cell? ⟨O, 0, none⟩ = some (.slice (some ⟨g2, 0, none⟩) l.length c2) ∧ w'.rangeAt g1 (k * 25) cs1 ∧ w'.rangeAt g2 (k * 25) cs2) (ds := []) #[false, false, false, false, false, false, false, false, false, false, false, false, false, false, false, false] (by kernel_rfl) rfl rfl ⟨x0, y0, hc1, hc2⟩ (fun hHeld => ?_)
      refine pure_ (i := 0) (N := some 49) (v := ?_) (a' := ?_) #[true, false, false, false, false, false, false, false, false, false, false, false, false, false, false, false] rfl rfl (by kernel_rfl) (fun _ _ _ h => h) (Or.inl ⟨by rfl, ?_⟩) ?_ ?_
      rotate_left
      · intro w'
        go_simp
        with_reducible rfl
      rotate_left
      · simp only [Act.put, List.setIfInBounds_toArray, List.set_cons_zero, List.set_cons_succ, i64_w, i32_w]
        rfl
      refine pure_ (i := 1) (N := some 50) (v := ?_) (a' := ?_) #[true, true, false, false, false, false, false, false, false, false, false, false, false, false, false, false] rfl rfl (by kernel_rfl) (fun _ _ _ h => h) (Or.inl ⟨by rfl, ?_⟩) ?_ ?_
      rotate_left
      · intro w'
        go_simp
        with_reducible rfl
      rotate_left
      · simp only [Act.put, List.setIfInBounds_toArray, List.set_cons_zero, List.set_cons_succ, i64_w, i32_w]
        rfl
      refine pure_ (i := 2) (N := some 51) (v := ?_) (a' := ?_) #[true, true, true, false, false, false, false, false, false, false, false, false, false, false, false, false] rfl rfl (by kernel_rfl) (fun _ _ _ h => h) (Or.inl ⟨by rfl, ?_⟩) ?_ ?_
      rotate_left
      · intro w'
        go_simp
        with_reducible rfl
      rotate_left
      · simp only [Act.put, List.setIfInBounds_toArray, List.set_cons_zero, List.set_cons_succ, i64_w, i32_w]
        rfl
      refine pure_ (i := 4) (N := some 53) (v := ?_) (a' := ?_) #[true, true, true, false, true, false, false, false, false, false, false, false, false, false, false, false] rfl rfl (by kernel_rfl) (fun _ _ _ h => h) (Or.inl ⟨by rfl, ?_⟩) ?_ ?_
      rotate_left
      · intro w'
        go_simp
        with_reducible rfl
      rotate_left
      · simp only [Act.put, List.setIfInBounds_toArray, List.set_cons_zero, List.set_cons_succ, i64_w, i32_w]
        rfl
      refine pure_ (i := 7) (N := some 56) (v := ?_) (a' := ?_) #[true, true, true, false, true, false, false, true, false, false, false, false, false, false, false, false] rfl rfl (by kernel_rfl) (fun _ _ _ h => h) (Or.inl ⟨by rfl, ?_⟩) ?_ ?_
      rotate_left
      · intro w'
        go_simp
        with_reducible rfl
      rotate_left
      · simp only [Act.put, List.setIfInBounds_toArray, List.set_cons_zero, List.set_cons_succ, i64_w, i32_w]
        rfl
      refine pure_ (i := 8) (N := some 57) (v := ?_) (a' := ?_) #[true, true, true, false, true, false, false, true, true, false, false, false, false, false, false, false] rfl rfl (by kernel_rfl) (fun _ _ _ h => h) (Or.inl ⟨by rfl, ?_⟩) ?_ ?_
      rotate_left
      · intro w'
        go_simp
        with_reducible rfl
      rotate_left
      · simp only [Act.put, List.setIfInBounds_toArray, List.set_cons_zero, List.set_cons_succ, i64_w, i32_w]
        rfl
      refine pure_ (i := 9) (N := some 58) (v := ?_) (a' := ?_) #[true, true, true, false, true, false, false, true, true, true, false, false, false, false, false, false] rfl rfl (by kernel_rfl) (fun _ _ _ h => h) (Or.inl ⟨by rfl, ?_⟩) ?_ ?_
      rotate_left
      · intro w'
        go_simp
        with_reducible rfl
      rotate_left
      · simp only [Act.put, List.setIfInBounds_toArray, List.set_cons_zero, List.set_cons_succ, i64_w, i32_w]
        rfl
      refine pure_ (i := 11) (N := some 60) (v := ?_) (a' := ?_) #[true, true, true, false, true, false, false, true, true, true, false, true, false, false, false, false] rfl rfl (by kernel_rfl) (fun _ _ _ h => h) (Or.inl ⟨by rfl, ?_⟩) ?_ ?_
      rotate_left
      · intro w'
        go_simp
        with_reducible rfl
      rotate_left
      · simp only [Act.put, List.setIfInBounds_toArray, List.set_cons_zero, List.set_cons_succ, i64_w, i32_w]
        rfl
      refine take_ (i := 3) (N := some 52) (v := ?_) (a' := ?_) #[true, true, true, true, true, false, false, true, true, true, false, true, false, false, false, false] rfl rfl (by kernel_rfl) (fun _ _ _ h => h) (Or.inl ⟨by rfl, ?_⟩) hHeld ?_ ?_
      rotate_left
      · rintro w' ⟨s0, s1, s2, s3⟩
        go_simp
        with_reducible rfl
      rotate_left
      · simp only [Act.put, List.setIfInBounds_toArray, List.set_cons_zero, List.set_cons_succ, i64_w, i32_w]
        rfl
      refine pure_ (i := 5) (N := some 54) (v := ?_) (a' := ?_) #[true, true, true, true, true, true, false, true, true, true, false, true, false, false, false, false] rfl rfl (by kernel_rfl) (fun _ _ _ h => h) (Or.inl ⟨by rfl, ?_⟩) ?_ ?_
      rotate_left
      · intro w'
        go_simp
        with_reducible rfl
      rotate_left
      · simp only [Act.put, List.setIfInBounds_toArray, List.set_cons_zero, List.set_cons_succ, i64_w, i32_w]
        rfl
      refine take_ (i := 6) (N := some 55) (v := .agg cs1.toArray) (a' := ?_) #[true, true, true, true, true, true, true, true, true, true, false, true, false, false, false, false] rfl rfl (by kernel_rfl) (fun _ _ _ h => h) (yieldsIf_load_mid (by rfl) 43 (.tmp 54) rfl g1 (k * 25) (by rfl) cs1 _ (fun w' h' => h'.2.2.1) Tryd.underlying43 rfl HL1.out) hHeld ?_ ?_
      rotate_left
      · simp only [Act.put, List.setIfInBounds_toArray, List.set_cons_zero, List.set_cons_succ, i64_w, i32_w]
        rfl
      refine take_ (i := 10) (N := some 59) (v := ?_) (a' := ?_) #[true, true, true, true, true, true, true, true, true, true, true, true, false, false, false, false] rfl rfl (by kernel_rfl) (fun _ _ _ h => h) (Or.inl ⟨by rfl, ?_⟩) hHeld ?_ ?_
      rotate_left
      · rintro w' ⟨s0, s1, s2, s3⟩
        go_simp
        with_reducible rfl
      rotate_left
      · simp only [Act.put, List.setIfInBounds_toArray, List.set_cons_zero, List.set_cons_succ, i64_w, i32_w]
        rfl
      refine pure_ (i := 12) (N := some 61) (v := ?_) (a' := ?_) #[true, true, true, true, true, true, true, true, true, true, true, true, true, false, false, false] rfl rfl (by kernel_rfl) (fun _ _ _ h => h) (Or.inl ⟨by rfl, ?_⟩) ?_ ?_
      rotate_left
      · intro w'
        go_simp
        with_reducible rfl
      rotate_left
      · simp only [Act.put, List.setIfInBounds_toArray, List.set_cons_zero, List.set_cons_succ, i64_w, i32_w]
        rfl
      refine take_ (i := 13) (N := some 62) (v := .agg cs2.toArray) (a' := ?_) #[true, true, true, true, true, true, true, true, true, true, true, true, true, true, false, false] rfl rfl (by kernel_rfl) (fun _ _ _ h => h) (yieldsIf_load_mid (by rfl) 43 (.tmp 61) rfl g2 (k * 25) (by rfl) cs2 _ (fun w' h' => h'.2.2.2) Tryd.underlying43 rfl HL2.out) hHeld ?_ ?_
      rotate_left
      · simp only [Act.put, List.setIfInBounds_toArray, List.set_cons_zero, List.set_cons_succ, i64_w, i32_w]
        rfl
      refine one_ (i := 14) (N := some 63) #[true, true, true, true, true, true, true, true, true, true, true, true, true, true, true, false] rfl rfl (by kernel_rfl) (by decide) (fun K hK => ?_)
      refine goes_ Tryd.func12 (by kernel_rfl) rfl #[.agg cs1.toArray, .agg cs2.toArray] (by rfl) rfl rfl (by simp only [List.map_toArray, List.map_cons, List.map_nil]; rfl) ?_
      with_reducible refine (HSM.out).mono ?_
      rintro e w9 ⟨rfl, hb9⟩
      refine ⟨_, rfl, ?_⟩
      refine hK.out _ _ ⟨cell_keepK rfl hb9 _ _ x0, cell_keepK rfl hb9 _ _ y0, (fun i u hu => cell_keepK rfl hb9 _ _ (hc1 i u hu)), (fun i u hu => cell_keepK rfl hb9 _ _ (hc2 i u hu))⟩ (fun hHeld => ?_)
      clear hK K
      refine norm_ (a' := ?_) ?_ ?_
      rotate_left
      · show Act.put _ (some 63) _ = _
        simp only [Act.put, List.setIfInBounds_toArray, List.set_cons_zero, List.set_cons_succ, i64_w, i32_w]
        rfl
      refine pure_ (i := 15) (N := some 64) (v := ?_) (a' := ?_) #[true, true, true, true, true, true, true, true, true, true, true, true, true, true, true, true] rfl rfl (by kernel_rfl) (fun _ _ _ h => h) (Or.inl ⟨by rfl, ?_⟩) ?_ ?_
      rotate_left
      · intro w'
        go_simp
        with_reducible rfl
      rotate_left
      · simp only [Act.put, List.setIfInBounds_toArray, List.set_cons_zero, List.set_cons_succ, i64_w, i32_w]
        rfl
      refine done_ (by kernel_rfl) ?_
      have HZ9 := Aside0.mk (HB.out.trans (((below_drew (Below.refl wr.heap.size wr)).trans (hb9.mono (show wr.heap.size ≤ wr.drew.heap.size from Nat.le_refl _))).mono HB.out.size))
      clear hHeld hb9 hc1 hc2 HSM
      go_wp2_with fail
      go_roundg q1
      case measure => exact Nat.lt_succ_self _
      case rel => exact ⟨k + 1, by have := HKQ.out; omega, by rw [show (((k + 1 : Nat) : Int)) = (k : Int) + 1 by omega]; try rw [ek], HZ9⟩
    · have t0 : decide ((k : Int) < (l.length : Int)) = false := decide_eq_false (by omega)
      have t0n : decide (k < l.length) = false := decide_eq_false (by omega)
      clear hkq hk
      go_wp2
      go_ret
      exact ⟨rfl, HB.out⟩
end Go.Proofs.YthlbcgaegaoanaaDoor.Cr

namespace Go.Proofs.YthlbcgaegaoanaaDoor.Cr
open Go Go.RowKit Go.Proofs.YthlbcgaegaoanaaDoorW.PrintWords Go.Proofs.YthlbcgaegaoanaaDoorW.PrintLast Go.Proofs.YthlbcgaegaoanaaDoorW.PrintMore Go.Proofs.YthlbcgaegaoanaaDoor.Kinds Go.Proofs.YthlbcgaegaoanaaDoor.Utf Go.Proofs.YthlbcgaegaoanaaDoor.Chk Go.Proofs.YthlbcgaegaoanaaDoor.Rdr
set_option linter.unusedVariables false
set_option linter.unusedSimpArgs false
structure K4 (w : World) (F : Nat) (s : FrS) (W : World) : Prop where
  fr : FrIs W w.heap.size F 100 s
  bel : Below w.heap.size w W
section
variable {w W W2 : World} {F : Nat} {s s2 : FrS}
theorem K4.alloc (h : K4 w F s W) (o : Obj) : K4 w F s (W.alloc o) := ⟨h.fr.below (below_alloc (Below.refl _ _) o), h.bel.alloc h.bel.size o⟩
theorem K4.below (h : K4 w F s W) (hb : Below W.heap.size W W2) : K4 w F s W2 := ⟨h.fr.below hb, h.bel.trans (hb.mono h.bel.size)⟩
theorem K4.fr' (h : K4 w F s W) (hf : FrIs W2 w.heap.size F 100 s2) (hz : Fr (fun k => k = F) W W2) : K4 w F s2 W2 := ⟨hf, hz.below h.bel (fun k e => by subst e; exact h.fr.ge) h.bel.size⟩
theorem K4.gl (h : K4 w F s W) (hg : Gl w) : Gl W := hg.below h.bel hg.sz h.bel.size
end
theorem put_len {w : World} {base F : Nat} {most : Int} {s : FrS} (h : FrIs w base F most s) (l : List Int) (A : Option Addr) (n c : Nat) (hn : n = l.length) (hr : (Kd.int .u8).C w A l.length l) (hb : Bytes l) (hlen : s.b.length + l.length ≤ 1099511627776) (s2 : FrS) (h2 : s.put l = s2) :
    Calls Tryd.prog 6 #[.pointer (some ⟨F, 0, none⟩), .slice A n c] w fun e w' => e = .returned (.tuple #[]) ∧ FrIs w' base F most s2 ∧ Fr (fun k => k = F) w w' := by
  subst hn h2
  exact put_any h l A c hr hb hlen
theorem nx_len {w : World} {base F : Nat} {most : Int} {s : FrS} (hg : Gl w) (h : FrIs w base F most s) (hlen : s.b.length ≤ 1099511627770) (r : FA × FrS) (hr : s.next most = r) :
    Calls Tryd.prog 10 #[.pointer (some ⟨F, 0, none⟩)] w fun e w' => NextAt w w' base F most e r := by
  subst hr
  exact frmNext_any hg h hlen
set_option maxRecDepth 100000 in
set_option maxHeartbeats 4000000 in
theorem known4_any {w : World} (hg : Gl w) : Calls Tryd.prog 4 #[] w fun e w' => e = .returned (.bool true) ∧ Below w.heap.size w w' := by
  have HG := Aside0.mk hg
  clear hg
  go_enter Tryd.func4, Tryd.ntmps4
  go_upto_region 4 with (go_at_call 5; (refine (frmNew_any 100 w).mono ?_); rintro e w1 ⟨F, rfl, hF, hB⟩; have H1 := Aside0.mk (show K4 w F FrS.new w1 from ⟨hF, hB⟩); clear hF hB)
  go_upto_region 5 with (go_at_call 6; (refine (put_len (H1.out.alloc _).fr [192] _ _ _ rfl (C_lit8 w1 [192] (by decide)) (lit_bytes (by decide)) (by decide) _ k4a).mono ?_); rintro e w2 ⟨rfl, hF, hZ⟩; have H2 := Aside0.mk ((H1.out.alloc _).fr' hF hZ); clear hF hZ)
  go_upto_region 6 with (first
    | (go_at_call 10; (refine (nx_len (H2.out.gl HG.out) H2.out.fr (by decide) _ k4b).mono ?_); rintro e w3 ⟨cs3, ev3, rfl, hM, hE, hF, hZ⟩; obtain rfl : ev3 = .nilIface := hE; have HM3 := Aside0.mk (pk_open hM); have H3 := Aside0.mk (H2.out.fr' hF hZ); clear hM hF hZ; dsimp only)
    | (refine wpList_store_row rfl 43 _ _ rfl w3.heap.size _ rfl rfl 43 _ (heap_alloc_new w3 (.cells noCells 43)) HM3.out.1 HM3.out.2.1 HM3.out.2.2.1 ?_))
  obtain ⟨W3, hW3⟩ : ∃ W : World, W = (w3.alloc (.cells noCells 43)).setRow w3.heap.size cs3.toArray := ⟨_, rfl⟩
  have HB3 := Aside0.mk (show K4 w F ⟨[192], 0, none⟩ W3 by have hn3 := pk_new w3 cs3; rw [← hW3] at hn3; exact H3.out.below hn3.2)
  refine wp_wld (w2 := W3) (by rw [hW3]; rfl) ?_
  clear hW3 H1 H2 H3 HM3
  go_upto_region 7 with (go_at_call 6; (refine (put_len (HB3.out.alloc _).fr [0, 192, 0, 224] _ _ _ rfl (C_lit8 W3 [0, 192, 0, 224] (by decide)) (lit_bytes (by decide)) (by decide) _ k4c).mono ?_); rintro e w4 ⟨rfl, hF, hZ⟩; have H4 := Aside0.mk ((HB3.out.alloc _).fr' hF hZ); clear hF hZ)
  go_upto_region 8 with (first
    | (go_at_call 10; (refine (nx_len (H4.out.gl HG.out) H4.out.fr (by decide) _ k4d).mono ?_); rintro e w5 ⟨cs5, ev5, rfl, hM, hE, hF, hZ⟩; obtain rfl : ev5 = .nilIface := hE; have HM5 := Aside0.mk (pk_open hM); have H5 := Aside0.mk (H4.out.fr' hF hZ); clear hM hF hZ; dsimp only)
    | (refine wpList_store_row rfl 43 _ _ rfl w5.heap.size _ rfl rfl 43 _ (heap_alloc_new w5 (.cells noCells 43)) HM5.out.1 HM5.out.2.1 HM5.out.2.2.1 ?_))
  obtain ⟨B, hB⟩ : ∃ B, B = w5.heap.size := ⟨_, rfl⟩
  obtain ⟨W5, hW5⟩ : ∃ W : World, W = (w5.alloc (.cells noCells 43)).setRow w5.heap.size cs5.toArray := ⟨_, rfl⟩
  have hn5 := pk_new w5 cs5
  rw [← hW5] at hn5
  have HB5 := Aside0.mk (H5.out.below hn5.2)
  have HP5 := Aside0.mk (show W5.heap[B]? = some (.cells cs5.toArray 43 (0, 0)) by rw [hB]; exact hn5.1)
  have HC5 := Aside0.mk (show cs5.toArray[0]? = some (.int .i64 12) from HM5.out.2.2.2)
  refine wp_wld (w2 := W5) (by rw [hW5]; rfl) ?_
  rw [← hB]
  clear hW5 hB hn5 HB3 H4 H5 HM5
  go_upto_region 9 with (first
    | (go_at_call 10; (refine (nx_len (HB5.out.gl HG.out) HB5.out.fr (by decide) _ k4e).mono ?_); rintro e w6 ⟨cs6, ev6, rfl, hM, hE, hF, hZ⟩; obtain rfl : ev6 = .nilIface := hE; have HM6 := Aside0.mk (pk_open hM); have H6 := Aside0.mk (HB5.out.fr' hF hZ); have HZ6 := Aside0.mk hZ; clear hM hF hZ; dsimp only)
    | (refine wpList_store_row rfl 43 _ _ rfl w6.heap.size _ rfl rfl 43 _ (heap_alloc_new w6 (.cells noCells 43)) HM6.out.1 HM6.out.2.1 HM6.out.2.2.1 ?_))
  obtain ⟨W6, hW6⟩ : ∃ W : World, W = (w6.alloc (.cells noCells 43)).setRow w6.heap.size cs6.toArray := ⟨_, rfl⟩
  have hn6 := pk_new w6 cs6
  rw [← hW6] at hn6
  have HB6 := Aside0.mk (H6.out.below hn6.2)
  have hne : B ≠ F := fun e => by
    obtain ⟨cells, hc⟩ := HB5.out.fr.self
    rw [← e, HP5.out] at hc
    injection hc with hc
    injection hc with _ hc
    exact absurd hc (by decide)
  have hp6 : W6.heap[B]? = some (.cells cs5.toArray 43 (0, 0)) := (hn6.2.block _ (Nat.lt_of_lt_of_le (blk_lt HP5.out) HZ6.out.size)).trans ((HZ6.out.block _ (blk_lt HP5.out) hne).trans HP5.out)
  have z0 : W6.cell? ⟨B, 0, none⟩ = some (.int .i64 12) := by rw [blk_cell hp6 0]; exact HC5.out
  refine wp_wld (w2 := W6) (by rw [hW6]; rfl) ?_
  clear hW6 hn6 HB5 H6 HM6 HZ6 hne hp6 HP5 HC5
  go_upto_region 11 with (go_at_call 8; (refine (held_any HB6.out.fr).mono ?_); rintro e w7 ⟨rfl, rfl⟩; simp only [List.length_cons, List.length_nil])
  go_upto_region 12 with (go_at_call 6; (refine (put_len (HB6.out.alloc _).fr [1, 7] _ _ _ rfl (C_lit8 W6 [1, 7] (by decide)) (lit_bytes (by decide)) (by decide) _ k4f).mono ?_); rintro e w8 ⟨rfl, hF, hZ⟩; have H8 := Aside0.mk ((HB6.out.alloc _).fr' hF hZ); clear hF hZ)
  go_upto_region 13 with (first
    | (go_at_call 10; (refine (nx_len (H8.out.gl HG.out) H8.out.fr (by decide) _ k4g).mono ?_); rintro e w9 ⟨cs9, ev9, rfl, hM, hE, hF, hZ⟩; have HE9 := Aside0.mk hE; have HM9 := Aside0.mk (pk_open hM); have H9 := Aside0.mk (H8.out.fr' hF hZ); clear hM hF hZ hE; dsimp only)
    | (refine wpList_store_row rfl 43 _ _ rfl w9.heap.size _ rfl rfl 43 _ (heap_alloc_new w9 (.cells noCells 43)) HM9.out.1 HM9.out.2.1 HM9.out.2.2.1 ?_))
  obtain ⟨W9, hW9⟩ : ∃ W : World, W = (w9.alloc (.cells noCells 43)).setRow w9.heap.size cs9.toArray := ⟨_, rfl⟩
  have hn9 := pk_new w9 cs9
  rw [← hW9] at hn9
  have HB9 := Aside0.mk (H9.out.below hn9.2)
  have HE9' := Aside0.mk (ev_below HE9.out hn9.2)
  refine wp_wld (w2 := W9) (by rw [hW9]; rfl) ?_
  clear hW9 hn9 HB6 H8 H9 HM9 HE9
  go_upto_region 14 with (go_at_call 11; (refine (told4_any HE9'.out (NZ.mk (by decide))).mono ?_); rintro e w10 ⟨rfl, hB⟩; have H10 := Aside0.mk (HB9.out.below hB); clear hB; simp only [toldP])
  obtain ⟨T, hT⟩ : ∃ T, T = w10.heap.size := ⟨_, rfl⟩
  obtain ⟨W10, hW10⟩ : ∃ W : World, W = w10.alloc (.cells #[.int .i64 6, .int .i64 15] 30) := ⟨_, rfl⟩
  have HT10 := Aside0.mk (show W10.heap[T]? = some (.cells #[.int .i64 6, .int .i64 15] 30 (0, 0)) by rw [hW10, hT]; exact heap_alloc_new w10 _)
  have HB10 := Aside0.mk (show K4 w F ⟨[], 4, some (6, 15)⟩ W10 by rw [hW10]; exact H10.out.alloc _)
  refine wp_wld (w2 := W10) (by rw [hW10]) ?_
  rw [← hT]
  clear hW10 hT H10 HB9 HE9'
  go_upto_region 15 with (go_at_call 6; (refine (put_len (HB10.out.alloc _).fr [192, 0] _ _ _ rfl (C_lit8 W10 [192, 0] (by decide)) (lit_bytes (by decide)) (by decide) _ k4h).mono ?_); rintro e w11 ⟨rfl, hF, hZ⟩; have H11 := Aside0.mk ((HB10.out.alloc _).fr' hF hZ); have HZ11 := Aside0.mk hZ; clear hF hZ)
  have hne : T ≠ F := fun e => by
    obtain ⟨cells, hc⟩ := HB10.out.fr.self
    rw [← e, HT10.out] at hc
    injection hc with hc
    injection hc with _ hc
    exact absurd hc (by decide)
  have ht11 : w11.heap[T]? = some (.cells #[.int .i64 6, .int .i64 15] 30 (0, 0)) := (HZ11.out.block _ (by have := blk_lt HT10.out; simp; omega) hne).trans ((heap_alloc_old _ _ (blk_lt HT10.out)).trans HT10.out)
  have x0 : w11.cell? ⟨T, 0, none⟩ = some (.int .i64 6) := blk_cell ht11 0
  have x1 : w11.cell? ⟨T, 1, none⟩ = some (.int .i64 15) := blk_cell ht11 1
  clear hne ht11 HZ11 HB10 HT10
  go_wp2_with (go_at_call 8; (refine (held_any H11.out.fr).mono ?_); rintro e w12 ⟨rfl, rfl⟩; simp only [List.length_nil])
  go_ret
  exact ⟨rfl, H11.out.bel⟩
end Go.Proofs.YthlbcgaegaoanaaDoor.Cr

namespace Go.Proofs.YthlbcgaegaoanaaDoor.Cr
open Go Go.RowKit Go.Proofs.YthlbcgaegaoanaaDoorW.PrintWords Go.Proofs.YthlbcgaegaoanaaDoorW.PrintLast Go.Proofs.YthlbcgaegaoanaaDoorW.PrintMore Go.Proofs.YthlbcgaegaoanaaDoor.Kinds Go.Proofs.YthlbcgaegaoanaaDoor.Utf Go.Proofs.YthlbcgaegaoanaaDoor.Chk Go.Proofs.YthlbcgaegaoanaaDoor.Rdr
set_option linter.unusedVariables false
set_option linter.unusedSimpArgs false
theorem hearK_len {most : Int} : ∀ (k : Nat) (s : FrS) (h : HS), s.Ok → (hearK most k s h).2.b.length ≤ s.b.length := by
  intro k
  induction k with
  | zero => intro s h hs; exact Nat.le_refl _
  | succ k ih =>
    intro s h hs
    have h1 := (FrS.all_step (most := most) hs).2
    simp only [hearK]
    split
    · exact Nat.le_trans (ih _ _ (hs.next most)) h1
    · exact h1
def fcY (cuts : List Int) (k : Nat) : Int := if 0 < cuts.length ∧ 0 < rd cuts ((k % cuts.length : Nat) : Int) then rd cuts ((k % cuts.length : Nat) : Int) else 1
def fcN (cuts : List Int) (k left : Nat) : Nat := (min (fcY cuts k) (left : Int)).toNat
theorem fcY_pos (cuts : List Int) (k : Nat) : 1 ≤ fcY cuts k := by unfold fcY; split <;> omega
theorem fcN_rng (cuts : List Int) (k left : Nat) (h : 0 < left) : 1 ≤ fcN cuts k left ∧ fcN cuts k left ≤ left ∧ ((fcN cuts k left : Nat) : Int) = min (fcY cuts k) (left : Int) := by
  have := fcY_pos cuts k
  unfold fcN
  omega
theorem FrIs.apart {w w1 : World} {base F : Nat} {most : Int} {s : FrS} {ok : Nat → Prop} (h : FrIs w base F most s) (hf : Fr ok w w1) (hok : ∀ k, k < w.heap.size → ok k → k ≠ F ∧ ∃ cells t, w.heap[k]? = some (.cells cells t (0, 0)) ∧ t ≠ 5 ∧ t ≠ 61) : FrIs w1 base F most s := by
  obtain ⟨v, ev, h1, h2, h3⟩ := h.ex
  refine ⟨⟨v, ev, (hf.block F (blk_lt h1) fun e => (hok F (blk_lt h1) e).1 rfl).trans h1, h2.fr hf (fun k hk e => ?_), h3.fr hf (fun k hk e => ?_)⟩, h.ge, h.ok⟩
  · obtain ⟨_, cells, t, hc, ht, _⟩ := hok k hk e; exact ⟨cells, t, hc, ht⟩
  · obtain ⟨_, cells, t, hc, _, ht⟩ := hok k hk e; exact ⟨cells, t, hc, ht⟩
theorem HdIs.blk {w : World} {z nb H : Nat} {h : HS} (hd : HdIs w z nb H h) : ∃ cells, w.heap[H]? = some (.cells cells 32 (0, 0)) := by
  obtain ⟨A, c, h1, _⟩ := hd.ex
  exact ⟨_, h1⟩
structure FcAt (w0 wx : World) (bG G Y : Nat) (most : Int) (F : List Pkt × FA × FrS) (b : List Int) (wr : World) (a : Nat) (s : FrS) (h : HS) : Prop where
  fr : FrIs wr bG G most s
  hd : HdIs wr wx.heap.size 0 Y h
  mv : Fr (fun k => k = G ∨ k = Y) wx wr
  bel : Below w0.heap.size w0 wr
  nz : NZ s.err
  cut : Cut most F (b.drop a) s h
  held : s.b.length ≤ a
  le : a ≤ b.length
section
variable {w0 wx wr w2 : World} {bG G Y : Nat} {most : Int} {F : List Pkt × FA × FrS} {b : List Int} {a : Nat} {s : FrS} {h : HS}
theorem FcAt.put (c : FcAt w0 wx bG G Y most F b wr a s h) (hlo : w0.heap.size ≤ G ∧ G < wx.heap.size ∧ G ≠ Y) (hb : Bytes b) {n : Nat} (hn : a + n ≤ b.length) (hf : FrIs w2 bG G most (s.put ((b.drop a).take n))) (hZ : Fr (fun k => k = G) wr w2) : FcAt w0 wx bG G Y most F b w2 (a + n) (s.put ((b.drop a).take n)) h :=
  ⟨hf, c.hd.fr hZ (fun k hk e => by subst e; exact ⟨hlo.2.2, .inl hlo.2.1⟩), c.mv.trans hZ (fun k _ e => .inl e), hZ.below c.bel (fun k e => by subst e; exact hlo.1) c.bel.size, FrS.nz_put c.nz _, by
    have hc := c.cut
    rw [show b.drop a = (b.drop a).take n ++ b.drop (a + n) by rw [← List.drop_drop, List.take_append_drop]] at hc
    exact hc.put (fun x hx => hb x (List.mem_of_mem_drop (List.mem_of_mem_take hx))), by
    have h1 := c.held
    unfold FrS.put
    split
    · omega
    · simp only [List.length_append, List.length_take, List.length_drop]; omega, hn⟩
theorem FcAt.heard (c : FcAt w0 wx bG G Y most F b wr a s h) (hbl : b.length ≤ 20000) (hF : F.1.length ≤ 20000) : HrAt w0 wr bG G Y wx.heap.size 0 most s h wr :=
  ⟨c.fr, c.hd, Fr.refl _ _, c.bel, c.nz, by
    have h1 := c.held
    have h2 := c.le
    have h3 := FrS.all_len (most := most) s.b.length c.fr.ok (Nat.le_refl _)
    have h4 : h.l.length ≤ F.1.length := by rw [← c.cut.l, List.length_append]; omega
    exact ⟨by omega, by omega⟩, c.mv.size⟩
theorem FcAt.after (c : FcAt w0 wx bG G Y most F b wr a s h) (hb : Bytes b) {K : Nat} (hh : HrAt w0 wr bG G Y wx.heap.size 0 most (hearK most K s h).2 (hearK most K s h).1 w2) : FcAt w0 wx bG G Y most F b w2 a (hearK most K s h).2 (hearK most K s h).1 :=
  ⟨hh.fr, hh.hd, c.mv.trans hh.mv (fun k hk e => by
      rcases e with e | e | e
      · exact .inl e
      · exact .inr e
      · omega), hh.bel, hh.nz, c.cut.hear (fun x hx => hb x (List.mem_of_mem_drop hx)) K, Nat.le_trans (hearK_len K s h c.fr.ok) c.held, c.le⟩
theorem FcAt.room (c : FcAt w0 wx bG G Y most F b wr a s h) : ((hearK most (s.b.length + 1) s h).2.b.length : Int) ≤ topP most + 4 := by
  rw [hearK_full most _ s h c.fr.ok (Nat.lt_succ_self _)]
  exact held_all _ s (Nat.le_refl _) c.fr.ok
end
end Go.Proofs.YthlbcgaegaoanaaDoor.Cr

namespace Go.Proofs.YthlbcgaegaoanaaDoor.Cr
open Go Go.RowKit Go.Proofs.YthlbcgaegaoanaaDoorW.PrintWords Go.Proofs.YthlbcgaegaoanaaDoorW.PrintLast Go.Proofs.YthlbcgaegaoanaaDoorW.PrintMore Go.Proofs.YthlbcgaegaoanaaDoor.Kinds Go.Proofs.YthlbcgaegaoanaaDoor.Utf Go.Proofs.YthlbcgaegaoanaaDoor.Chk Go.Proofs.YthlbcgaegaoanaaDoor.Rdr
attribute [local go_sem] max2_int min2_int max_two min_two
set_option linter.unusedVariables false
set_option linter.unusedSimpArgs false
set_option maxRecDepth 100000 in
set_option maxHeartbeats 4000000 in
theorem fcuts_any {w : World} (hg : Gl w) (b : List Int) (A : Option Addr) (n c : Nat) (hn : n = b.length) (hlc : b.length ≤ c) (hr : (Kd.int .u8).C w A b.length b) (hb : Bytes b)
    (cuts : List Int) (A2 : Option Addr) (n2 c2 : Nat) (hn2 : n2 = cuts.length) (hr2 : (Kd.int .i64).C w A2 cuts.length cuts)
    (asks : List Int) (A3 : Option Addr) (n3 c3 : Nat) (hn3 : n3 = asks.length) (hr3 : (Kd.int .i64).C w A3 asks.length asks) (top : Int) :
    Calls Tryd.prog 3 #[.slice A n c, .slice A2 n2 c2, .slice A3 n3 c3, .int .i64 top] w fun e w' => e = .returned (.bool true) ∧ Below w.heap.size w w' := by
  subst hn hn2 hn3
  have HG := Aside0.mk hg
  have HRB := Aside0.mk hr
  have HRC := Aside0.mk hr2
  have HRA := Aside0.mk hr3
  have HBB := Aside0.mk hb
  have HCC := Aside0.mk hlc
  have HLC := Aside0.mk (show cuts.length ≤ 9223372036854775807 from hr2.2.1)
  have HLA := Aside0.mk (show asks.length ≤ 9223372036854775807 from hr3.2.1)
  clear hg hr hr2 hr3 hb hlc
  go_enter Tryd.func3, Tryd.ntmps3
  go_upto_region 3 with (go_at_call 4; (with_reducible refine (known4_any HG.out).mono ?_); rintro e w1 ⟨rfl, hB⟩; have HB1 := Aside0.mk hB; clear hB)
  by_cases hlen : 20000 < b.length
  · have t1 : decide ((20000 : Int) < (b.length : Int)) = true := decide_eq_true (by omega)
    clear hlen
    go_wp2_with fail
    go_ret
    exact ⟨rfl, HB1.out⟩
  have t1 : decide ((20000 : Int) < (b.length : Int)) = false := decide_eq_false (by omega)
  have HL := Aside0.mk (show b.length ≤ 20000 by omega)
  clear hlen
  go_upto_region 5 with fail
  clear t1
  go_upto_region 6 with (first
    | (have _ := HF2.out; go_at_call 5; (with_reducible refine (frmNew_any top w2).mono ?_); rintro e w3 ⟨G, rfl, hF, hB⟩; have HF3 := Aside0.mk hF; have HB3 := Aside0.mk hB; clear hF hB)
    | (go_at_call 5; (with_reducible refine (frmNew_any top w1).mono ?_); rintro e w2 ⟨F, rfl, hF, hB⟩; have HF2 := Aside0.mk hF; have HB2 := Aside0.mk hB; clear hF hB))
  go_upto_region 9 with fail
  obtain ⟨bF, hbF⟩ : ∃ bF, bF = w1.heap.size := ⟨_, rfl⟩
  obtain ⟨bG, hbG⟩ : ∃ bG, bG = w2.heap.size := ⟨_, rfl⟩
  obtain ⟨X, hX⟩ : ∃ X, X = w3.heap.size := ⟨_, rfl⟩
  obtain ⟨Y, hY⟩ : ∃ Y, Y = w3.heap.size + 1 := ⟨_, rfl⟩
  obtain ⟨W4, hW4⟩ : ∃ W : World, W = (w3.alloc (.cells #[.slice none 0 0, .int .i64 0, .int .i64 0, .bool false] 32)).alloc (.cells #[.slice none 0 0, .int .i64 0, .int .i64 0, .bool false] 32) := ⟨_, rfl⟩
  have hb4 : Below w3.heap.size w3 W4 := by rw [hW4]; exact ((Below.refl _ _).alloc (Nat.le_refl _) _).alloc (by simp) _
  have HF4 := Aside0.mk (show FrIs W4 bF F top FrS.new by rw [hbF]; exact (HF2.out.below HB3.out).below hb4)
  have HG4 := Aside0.mk (show FrIs W4 bG G top FrS.new by rw [hbG]; exact HF3.out.below hb4)
  have HX4 := Aside0.mk (show W4.heap[X]? = some (.cells #[.slice none 0 0, .int .i64 0, .int .i64 0, .bool false] 32 (0, 0)) by rw [hW4, hX]; exact (heap_alloc_old _ _ (by simp)).trans (heap_alloc_new w3 _))
  have HY4 := Aside0.mk (show W4.heap[Y]? = some (.cells #[.slice none 0 0, .int .i64 0, .int .i64 0, .bool false] 32 (0, 0)) by
    rw [hW4, hY]
    have := heap_alloc_new (w3.alloc (.cells #[.slice none 0 0, .int .i64 0, .int .i64 0, .bool false] 32)) (.cells #[.slice none 0 0, .int .i64 0, .int .i64 0, .bool false] 32)
    simpa using this)
  have HB4 := Aside0.mk (show Below w.heap.size w W4 from HB1.out.trans ((HB2.out.trans ((HB3.out.trans (hb4.mono HB3.out.size)).mono HB2.out.size)).mono HB1.out.size))
  have HLO := Aside0.mk (show w.heap.size ≤ F ∧ F < G ∧ G < X ∧ X < Y ∧ Y < W4.heap.size ∧ 0 < w.heap.size by
    have h1 := HF2.out.ge
    have h2 := HF2.out.lt
    have h3 := HF3.out.ge
    have h4 := HF3.out.lt
    have h5 := HB1.out.size
    have h6 := blk_lt HY4.out
    have h7 := HG.out.sz
    omega)
  refine wp_wld (w2 := W4) (by rw [hW4]) ?_
  rw [← hX, show X + 1 = Y by rw [hX]; exact hY.symm]
  clear hX hY hW4 hb4 hbF hbG HF2 HF3 HB1 HB2 HB3
  have HPUT := Aside0.mk (put_any HF4.out b A c (Kd.C_below HRB.out HB4.out) HBB.out (by have := HL.out; show 0 + b.length ≤ 1099511627776; omega))
  go_upto_region 10 with (go_at_call 6; (with_reducible refine (HPUT.out).mono ?_); rintro e w5 ⟨rfl, hF, hZ⟩; have HF5 := Aside0.mk hF; have HZ5 := Aside0.mk hZ; clear hF hZ)
  have HB5 := Aside0.mk (show Below w.heap.size w w5 from HZ5.out.below HB4.out (fun k e => by have := HLO.out; subst e; omega) HB4.out.size)
  have HG5 := Aside0.mk (show FrIs w5 bG G top FrS.new from HG4.out.apart HZ5.out (fun k hk e => by
    subst e
    obtain ⟨cells, hc⟩ := HF4.out.self
    exact ⟨by have := HLO.out; omega, cells, _, hc, by decide, by decide⟩))
  have HX5 := Aside0.mk ((HZ5.out.block X (blk_lt HX4.out) (by have := HLO.out; omega)).trans HX4.out)
  have HY5 := Aside0.mk ((HZ5.out.block Y (blk_lt HY4.out) (by have := HLO.out; omega)).trans HY4.out)
  have HLO5 := Aside0.mk (show w.heap.size ≤ F ∧ F < G ∧ G < X ∧ X < Y ∧ Y < w5.heap.size ∧ 0 < w.heap.size ∧ w.heap.size ≤ w5.heap.size by have := HLO.out; have h1 := HZ5.out.size; have h2 := HB5.out.size; omega)
  obtain ⟨FA, hFA⟩ : ∃ FA, FA = (FrS.new.put b).all top := ⟨_, rfl⟩
  have HPL := Aside0.mk (show (FrS.new.put b).b = b by unfold FrS.put; simp [FrS.new])
  have HFL := Aside0.mk (show FA.1.length ≤ 20000 by
    have h1 := FrS.all_len (most := top) _ HF5.out.ok (Nat.le_refl _)
    rw [HPL.out] at h1
    rw [hFA]
    have := HL.out
    omega)
  have HH := Aside0.mk (hears_any (w0 := w) (w := w5) (base := bF) (F := F) (H := X) (z := w5.heap.size) (nb := 0) (most := top) (s := FrS.new.put b) (h := ⟨[], none⟩) HG.out
    ⟨HF5.out, ⟨none, 0, HX5.out, Kd.R_nil _ _ _ _ _⟩, Fr.refl _ _, HB5.out, FrS.nz_put NZ.none _, by rw [← hFA, HPL.out]; have := HL.out; have := HFL.out; exact ⟨by simp; omega, by omega⟩, Nat.le_refl _⟩
    (by have := HLO5.out; omega) (-1) (b.length + 1) (.inr ⟨rfl, by rw [HPL.out]; exact Nat.lt_succ_self _, by have := HL.out; omega⟩))
  have hfull := hearK_full top (b.length + 1) (FrS.new.put b) ⟨[], none⟩ HF5.out.ok (by rw [HPL.out]; exact Nat.lt_succ_self _)
  rw [← hFA] at hfull
  have HFULL := Aside0.mk hfull
  have HFA := Aside0.mk hFA
  clear hfull hFA
  go_upto_region 11 with (go_at_call 7; (with_reducible refine (HH.out).mono ?_); rintro e wx ⟨rfl, hh⟩; rw [HFULL.out] at hh; have HHX := Aside0.mk hh; clear hh)
  clear HH HFULL HPUT
  have HGX := Aside0.mk (show FrIs wx bG G top FrS.new from HG5.out.apart HHX.out.mv (fun k hk e => by
    have := HLO5.out
    rcases e with e | e | e
    · subst e
      obtain ⟨cells, hc⟩ := HF5.out.self
      exact ⟨by omega, cells, _, hc, by decide, by decide⟩
    · subst e
      exact ⟨by omega, _, _, HX5.out, by decide, by decide⟩
    · omega))
  have HYX := Aside0.mk ((HHX.out.mv.block Y (blk_lt HY5.out) (fun e => by have := HLO5.out; rcases e with e | e | e <;> omega)).trans HY5.out)
  have HA := Aside0.mk (show FcAt w wx bG G Y top FA b wx 0 FrS.new ⟨[], none⟩ from
    ⟨HGX.out, ⟨none, 0, HYX.out, Kd.R_nil _ _ _ _ _⟩, Fr.refl _ _, HHX.out.bel, NZ.none, ⟨FrS.Ok.new, by rw [HFA.out]; rfl, by rw [HFA.out]; rfl⟩, by simp [FrS.new], Nat.zero_le _⟩)
  have HSX := Aside0.mk (show w5.heap.size ≤ wx.heap.size from HHX.out.mv.size)
  have HFX := Aside0.mk (show ∀ wr : World, Fr (fun k => k = G ∨ k = Y) wx wr → FrIs wr bF F top FA.2.2 ∧ HdIs wr w5.heap.size 0 X ⟨FA.1, FA.2.1.f⟩ from fun wr hf => ⟨HHX.out.fr.apart hf (fun k hk e => by
      have := HLO5.out
      rcases e with e | e
      · subst e
        obtain ⟨cells, hc⟩ := HGX.out.self
        exact ⟨by omega, cells, _, hc, by decide, by decide⟩
      · subst e
        exact ⟨by omega, _, _, HYX.out, by decide, by decide⟩),
    HHX.out.hd.fr hf (fun k hk e => by have := HLO5.out; rcases e with e | e <;> subst e <;> exact ⟨by omega, .inl (by omega)⟩)⟩)
  clear HHX HF4 HG4 HX4 HY4 HB4 HLO HF5 HZ5 HB5 HG5 HX5 HY5 HPL HGX HYX
  go_upto_region 12 with fail
  have hrm : ((if 268435455 < (if top < 2 then 2 else top) then 268435455 else (if top < 2 then 2 else top)) + 4 : Int) = topP top + 4 := by unfold topP; split <;> split <;> omega
  rw [hrm]
  obtain ⟨rm, hrm2⟩ : ∃ rm, rm = topP top + 4 := ⟨_, rfl⟩
  rw [← hrm2]
  have HRM := Aside0.mk hrm2
  clear hrm hrm2
  generalize (if 268435455 < (if top < 2 then 2 else top) then 268435455 else (if top < 2 then 2 else top) : Int) = q3
  generalize (if top < 2 then 2 else top : Int) = q2
  go_wp2_with fail
  go_loopg [14, 15] (b.length + 1) (fun q i at_ wr => ∃ (k a : Nat) (s : FrS) (h : HS), i = .int .i64 (k : Int) ∧ at_ = .int .i64 (a : Int) ∧ k ≤ a ∧ b.length < a + q ∧ Aside0 (FcAt w wx bG G Y top FA b wr a s h))
  case atStart => exact ⟨0, 0, FrS.new, ⟨[], none⟩, rfl, rfl, by omega, by omega, HA⟩
  case round =>
    obtain ⟨k, a, s, h, rfl, rfl, hka, hkq, HR⟩ := hrel
    clear HA
    have hab := HR.out.le
    rcases Nat.lt_or_ge a b.length with hk | hk
    · have t0 : decide ((a : Int) < (b.length : Int)) = true := decide_eq_true (by omega)
      have ek : wrap64 ((k : Int) + 1) = (k : Int) + 1 := by have := HL.out; unfold wrap64; omega
      obtain ⟨q1, rfl⟩ : ∃ q1, gk = q1 + 1 := ⟨gk - 1, by omega⟩
      have HKA := Aside0.mk (And.intro hka (And.intro hkq (And.intro hk hab)))
      have hlt : ((a : Int) < (b.length : Int)) := by omega
      clear hka hkq hk hab
      have hcut : ∃ (bz bp : Bool) (r : Nat) (y : Int), bz = decide (0 < cuts.length) ∧ bp = decide (0 < y) ∧ (bz = true → r < cuts.length ∧ ((k : Int) % (cuts.length : Int)) = (r : Int) ∧ (∃ ad, A2 = some ad ∧ wr.cell? (ad.add r) = some (.int .i64 y))) ∧ fcY cuts k = (if bz && bp then y else 1) := by
        refine ⟨decide (0 < cuts.length), decide (0 < rd cuts ((k % cuts.length : Nat) : Int)), k % cuts.length, rd cuts ((k % cuts.length : Nat) : Int), rfl, rfl, fun e => ?_, ?_⟩
        · have hp : 0 < cuts.length := of_decide_eq_true e
          have hr : k % cuts.length < cuts.length := Nat.mod_lt _ hp
          obtain ⟨ad, hA2, c1⟩ := Kd.at_int (Kd.C_below HRC.out HR.out.bel) ((k % cuts.length : Nat) : Int) (by omega) (by omega)
          rw [Int.toNat_natCast] at c1
          exact ⟨hr, by omega, ad, hA2, c1⟩
        · unfold fcY
          by_cases h1 : 0 < cuts.length <;> by_cases h2 : 0 < rd cuts ((k % cuts.length : Nat) : Int) <;> simp [h1, h2]
      obtain ⟨bz, bp, r, y, hbz, hbp, hrc, hyy⟩ := hcut
      have HYY := Aside0.mk hyy
      clear hyy
      cases bz
      all_goals
        have p2n : decide (0 < cuts.length) = _ := hbz.symm
        have p2 : decide ((0 : Int) < (cuts.length : Int)) = _ := (by first | exact (decide_eq_true (by have := of_decide_eq_true p2n; omega)) | exact (decide_eq_false (by have := of_decide_eq_false p2n; omega)))
        try obtain ⟨hr1, hr2, ad2, hA2, c1⟩ := hrc rfl
        try subst hA2
        try have hr3 : (r : Int) < (cuts.length : Int) := by omega
        try have hr0 : (0 : Int) ≤ (r : Int) := by omega
        try have tp : decide (0 < y) = _ := hbp.symm
        try have tp2 : decide (y > 0) = _ := hbp.symm
        clear hbz hbp hrc
        go_upto_if 65 with fail
        clear t0
      all_goals
        go_cut [16] (fun s16 wq => s16 = .int .i64 (fcY cuts k) ∧ wq = wr)
        case first =>
          cases bp
          all_goals
            have hy1 := HYY.out
            simp only [Bool.and_true, Bool.and_false, Bool.false_and, Bool.true_and, if_true, Bool.false_eq_true, if_false] at hy1
            go_wp2_with fail
            all_goals
              go_meet
              case rel => exact ⟨by rw [hy1], rfl⟩
        case rest =>
          obtain ⟨rfl, rfl⟩ := hcut
          have hbl := HL.out
          obtain ⟨hn1, hn2, hn3⟩ := fcN_rng cuts k (b.length - a) (by omega)
          have hyp := fcY_pos cuts k
          generalize fcN cuts k (b.length - a) = n at *
          generalize fcY cuts k = y1 at *
          have hmin : (if (b.length : Int) - (a : Int) < y1 then (b.length : Int) - (a : Int) else y1) = (n : Int) := by split <;> omega
          clear hn3
          try clear p2n p2 hr1 hr2 hr3 hr0 tp tp2 c1
          clear HYY
          go_upto_region 19 with fail
          try rw [hmin]
          clear hmin
          obtain ⟨t, ht⟩ : ∃ t, t = a + n := ⟨_, rfl⟩
          have et : (a : Int) + (n : Int) = (t : Int) := by omega
          have hta : a ≤ t := by omega
          have htb : t ≤ b.length := by omega
          have cA : 0 ≤ (a : Int) ∧ (a : Int) ≤ max (t : Int) 0 := ⟨by omega, by omega⟩
          have cB : (t : Int) ≤ (c : Int) := by have := HCC.out; omega
          have cC : (0 : Int) ≤ (t : Int) := by omega
          have hmid := Kd.C_mid (k := Kd.int .u8) (c := c) (lo := a) (hi := t) (Kd.C_below HRB.out HR.out.bel) hta htb HCC.out
          rw [show (b.take t).drop a = (b.drop a).take n by rw [List.drop_take, show t - a = n by omega], show (a * (Kd.int .u8).sz) = a from Nat.mul_one _] at hmid
          obtain ⟨A', hA'⟩ : ∃ A', (if c = a then A else Option.map (fun x => x.add a) A) = A' := ⟨_, rfl⟩
          rw [hA'] at hmid
          have HPUT := Aside0.mk (put_len HR.out.fr ((b.drop a).take n) A' (t - a) (c - a) (by rw [List.length_take, List.length_drop]; omega) (by first | exact hmid | (rw [show ((b.drop a).take n).length = t - a by rw [List.length_take, List.length_drop]; omega]; exact hmid)) (fun x hx => HBB.out x (List.mem_of_mem_drop (List.mem_of_mem_take hx))) (by
            have h1 := HR.out.held
            rw [List.length_take, List.length_drop]
            omega) _ rfl)
          obtain ⟨s2, hs2⟩ : ∃ s2, s2 = s.put ((b.drop a).take n) := ⟨_, rfl⟩
          rw [← hs2] at HPUT
          have HPT := Aside0.mk (show ∀ w2 : World, FrIs w2 bG G top s2 → Fr (fun k => k = G) wc w2 → FcAt w wx bG G Y top FA b w2 t s2 h from fun w2 hf hZ => by
            rw [ht, hs2]
            rw [hs2] at hf
            exact HR.out.put (by have := HLO5.out; have := HSX.out; exact ⟨by omega, by omega, by omega⟩) HBB.out (by omega) hf hZ)
          have HKT := Aside0.mk (show k + 1 ≤ t ∧ b.length < t + q1 from by have := HKA.out; omega)
          have wt : wrap64 (t : Int) = (t : Int) := by unfold wrap64; omega
          clear hmid ht hta htb hs2 hn1 hn2 hyp
          go_upto_region 20 with (go_at_call 6; (with_reducible refine (HPUT.out).mono ?_); rintro e w8 ⟨rfl, hF, hZ⟩; have HR8 := Aside0.mk (HPT.out w8 hF hZ); clear hF hZ)
          clear HPUT HPT HR cA cB cC hA'
          go_upto_region 21 with fail
          try rw [wt]
          clear wt et
          have HE := Aside0.mk ek
          have haska : ∃ (bz : Bool) (r : Nat) (y : Int), bz = decide (asks.length = 0) ∧ (bz = false → r < asks.length ∧ ((k : Int) % (asks.length : Int)) = (r : Int) ∧ (∃ ad, A3 = some ad ∧ w8.cell? (ad.add r) = some (.int .i64 y))) := by
            refine ⟨decide (asks.length = 0), k % asks.length, rd asks ((k % asks.length : Nat) : Int), rfl, fun e => ?_⟩
            have hp : 0 < asks.length := Nat.pos_of_ne_zero (of_decide_eq_false e)
            have hr : k % asks.length < asks.length := Nat.mod_lt _ hp
            obtain ⟨ad, hA3, c1⟩ := Kd.at_int (Kd.C_below HRA.out HR8.out.bel) ((k % asks.length : Nat) : Int) (by omega) (by omega)
            rw [Int.toNat_natCast] at c1
            exact ⟨hr, by omega, ad, hA3, c1⟩
          obtain ⟨bz2, r2, y2, hbz2, hrc2⟩ := haska
          cases bz2
          case true =>
            have hz : asks.length = 0 := of_decide_eq_true hbz2.symm
            have te : ((asks.length : Int) == 0) = true := by simp [hz]
            clear hbz2 hrc2
            go_wp2_with fail
            go_roundg q1
            case measure => exact Nat.lt_succ_self _
            case rel => exact ⟨k + 1, t, s2, h, by rw [show (((k + 1 : Nat) : Int)) = (k : Int) + 1 by omega]; try rw [ek], rfl, HKT.out.1, HKT.out.2, HR8⟩
          case false =>
            have hz : ¬ asks.length = 0 := of_decide_eq_false hbz2.symm
            obtain ⟨g1, g2, ad3, hA3, c1⟩ := hrc2 rfl
            subst hA3
            have te : ((asks.length : Int) == 0) = false := by simp [hz]
            have g3 : (r2 : Int) < (asks.length : Int) := by omega
            have g0 : (0 : Int) ≤ (r2 : Int) := by omega
            clear hbz2 hrc2 hz
            go_upto_region 23 with fail
            clear te g1 g2 g3 g0 c1
            have HS := Aside0.mk (show FcAt w wx bG G Y top FA b w8 t s2 h from HR8.out)
            have HHK := Aside0.mk (fun (n : Int) (K : Nat) hn => hears_any HG.out (HR8.out.heard hbl HFL.out) (by have := HLO5.out; have := HSX.out; have := HR8.out.bel.size; omega) n K hn)
            rcases Int.lt_trichotomy y2 0 with hy | hy | hy
            · have u1 : decide (y2 < 0) = true := decide_eq_true hy
              have HH := Aside0.mk (HHK.out (-1) (s2.b.length + 1) (.inr ⟨rfl, Nat.lt_succ_self _, by have := HR8.out.held; have := HR8.out.le; omega⟩))
              go_upto_region 25 with (go_at_call 7; (with_reducible refine (HH.out).mono ?_); rintro e w9 ⟨rfl, hh⟩; have HR9 := Aside0.mk (HR8.out.after HBB.out hh); clear hh)
              have hroom := HR8.out.room
              rw [← HRM.out] at hroom
              obtain ⟨s3, hs3⟩ : ∃ s3, s3 = (hearK top (s2.b.length + 1) s2 h).2 := ⟨_, rfl⟩
              obtain ⟨h3, hh3⟩ : ∃ h3, h3 = (hearK top (s2.b.length + 1) s2 h).1 := ⟨_, rfl⟩
              rw [← hs3, ← hh3] at HR9
              rw [← hs3] at hroom
              have v1 : decide (rm < (s3.b.length : Int)) = false := decide_eq_false (by omega)
              obtain ⟨A9, c9, hb9, _⟩ := HR9.out.hd.ex
              have x3 : w9.cell? ⟨Y, 3, none⟩ = some (.bool false) := blk_cell hb9 3
              clear hroom hs3 hh3 hb9 HH HHK hy u1
              go_wp2_with (go_at_call 8; (with_reducible refine (held_any HR9.out.fr).mono ?_); rintro e w10 ⟨rfl, rfl⟩)
              go_roundg q1
              case measure => exact Nat.lt_succ_self _
              case rel => exact ⟨k + 1, t, s3, h3, by rw [show (((k + 1 : Nat) : Int)) = (k : Int) + 1 by omega]; try rw [ek], rfl, HKT.out.1, HKT.out.2, HR9⟩
            · subst hy
              obtain ⟨A9, c9, hb9, _⟩ := HR8.out.hd.ex
              have x3 : w8.cell? ⟨Y, 3, none⟩ = some (.bool false) := blk_cell hb9 3
              clear hb9 HHK
              go_wp2_with fail
              go_roundg q1
              case measure => exact Nat.lt_succ_self _
              case rel => exact ⟨k + 1, t, s2, h, by rw [show (((k + 1 : Nat) : Int)) = (k : Int) + 1 by omega]; try rw [ek], rfl, HKT.out.1, HKT.out.2, HR8⟩
            · have u1 : decide (y2 < 0) = false := decide_eq_false (by omega)
              have u2 : decide (0 < y2) = true := decide_eq_true hy
              obtain ⟨K, hK⟩ : ∃ K, K = (min y2 5).toNat := ⟨_, rfl⟩
              have hK1 : ((K : Nat) : Int) = min y2 5 := by omega
              have hm1 : (if (5 : Int) < y2 then 5 else y2) = (K : Int) := by split <;> omega
              have hm2 : min y2 5 = (K : Int) := hK1.symm
              have HH := Aside0.mk (HHK.out (K : Int) K (.inl ⟨rfl, by omega⟩))
              clear hK1 hK HHK
              go_upto_region 29 with (go_at_call 7; (with_reducible refine (HH.out).mono ?_); rintro e w9 ⟨rfl, hh⟩; have HR9 := Aside0.mk (HR8.out.after HBB.out hh); clear hh)
              obtain ⟨s3, hs3⟩ : ∃ s3, s3 = (hearK top K s2 h).2 := ⟨_, rfl⟩
              obtain ⟨h3, hh3⟩ : ∃ h3, h3 = (hearK top K s2 h).1 := ⟨_, rfl⟩
              rw [← hs3, ← hh3] at HR9
              obtain ⟨A9, c9, hb9, _⟩ := HR9.out.hd.ex
              have x3 : w9.cell? ⟨Y, 3, none⟩ = some (.bool false) := blk_cell hb9 3
              clear hs3 hh3 hb9 HH hy u1 u2 hm1 hm2
              go_wp2_with fail
              go_roundg q1
              case measure => exact Nat.lt_succ_self _
              case rel => exact ⟨k + 1, t, s3, h3, by rw [show (((k + 1 : Nat) : Int)) = (k : Int) + 1 by omega]; try rw [ek], rfl, HKT.out.1, HKT.out.2, HR9⟩
    · have t0 : decide ((a : Int) < (b.length : Int)) = false := decide_eq_false (by omega)
      have t0n : decide (a < b.length) = false := decide_eq_false (by omega)
      have hae : a = b.length := by omega
      have HCUT := Aside0.mk (show Cut top FA [] s h by have := HR.out.cut; rw [hae, List.drop_length] at this; exact this)
      have HH := Aside0.mk (hears_any HG.out (HR.out.heard HL.out HFL.out) (by have := HLO5.out; have := HSX.out; have := HR.out.bel.size; omega) (-1) (s.b.length + 1) (.inr ⟨rfl, Nat.lt_succ_self _, by have := HR.out.held; have := HR.out.le; have := HL.out; omega⟩))
      have HW := Aside0.mk (HCUT.out.whole (s.b.length + 1) (Nat.lt_succ_self _))
      have HRO := Aside0.mk (show (FA.2.2.b.length : Int) ≤ rm by
        have h1 := HR.out.room
        rw [HW.out] at h1
        rw [HRM.out]
        exact h1)
      clear hka hkq hab hae hk
      go_upto_region 32 with (go_at_call 7; (with_reducible refine (HH.out).mono ?_); rintro e w9 ⟨rfl, hh⟩; have HR9 := Aside0.mk (HR.out.after HBB.out hh); clear hh)
      rw [HW.out] at HR9
      obtain ⟨q1, q2⟩ := HFX.out w9 HR9.out.mv
      obtain ⟨A1, c1, hX, hR1⟩ := q2.ex
      obtain ⟨A2', c2', hY, hR2⟩ := HR9.out.hd.ex
      have HSM := Aside0.mk (sameHd_any FA.1 (by have := HFL.out; omega) (.slice A1 FA.1.length c1) (.slice A2' FA.1.length c2') (toldP FA.2.1.f).1 (toldP FA.2.1.f).2 w9 X Y _ _ _ _ hX hY (Kd.R_toOf hR1) (Kd.R_toOf hR2))
      have HQ1 := Aside0.mk q1
      clear hX hY hR1 hR2 q1 q2 HH HW HCUT HR t0 t0n
      obtain ⟨L, hL⟩ : ∃ L : Nat, L = FA.2.2.b.length := ⟨_, rfl⟩
      have HLL := Aside0.mk hL
      have v1 : decide ((L : Int) ≤ rm) = true := decide_eq_true (by have := HRO.out; rw [hL]; exact this)
      have v2 : decide ((L : Int) ≥ 0) = true := decide_eq_true (by omega)
      have v3 : ((L : Int) == (L : Int)) = true := by simp
      clear hL
      go_wp2_with (first
        | (go_at_call 9; (with_reducible refine (HSM.out).mono ?_); rintro e w10 ⟨rfl, hB⟩; have HB10 := Aside0.mk hB; clear hB)
        | (go_at_call 8; (with_reducible refine (held_any (HQ1.out.below HB10.out)).mono ?_); rintro e w11 ⟨rfl, rfl⟩; rw [← HLL.out])
        | (go_at_call 8; (with_reducible refine (held_any (HR9.out.fr.below HB10.out)).mono ?_); rintro e w11 ⟨rfl, rfl⟩; rw [← HLL.out]))
      go_ret
      exact ⟨rfl, HR9.out.bel.trans (HB10.out.mono HR9.out.bel.size)⟩
end Go.Proofs.YthlbcgaegaoanaaDoor.Cr

/- what packet.Check answers, in plain Lean. No statement of the program. packet.Check. No statement of the program. UNDER WAY packet.Check of every packet. No statement of the program. -/
import Derived.Test.YthlbcgaegaoanaaDoorMForeign
import Derived.Test.YthlbcgaegaoanaaDoorMFilt
namespace Go.Proofs.YthlbcgaegaoanaaDoor.Cr
open Go Go.RowKit Go.Proofs.YthlbcgaegaoanaaDoorW.PrintWords Go.Proofs.YthlbcgaegaoanaaDoorW.PrintLast Go.Proofs.YthlbcgaegaoanaaDoorW.PrintMore Go.Proofs.YthlbcgaegaoanaaDoor.Kinds Go.Proofs.YthlbcgaegaoanaaDoor.Utf Go.Proofs.YthlbcgaegaoanaaDoor.Chk Go.Proofs.YthlbcgaegaoanaaDoor.Rdr
set_option linter.unusedVariables false
set_option linter.unusedSimpArgs false
def ck0 (p : Pkt) : Bool := forB p || decide (p.level < 0) || decide (255 < p.level) || decide (p.code < 0) || decide (255 < p.code) || decide (p.keep < 0) || decide (65535 < p.keep)
def ck1 (p : Pkt) : Bool := !textB p.client || !textB p.user
def ck2 (p : Pkt) : Bool := (p.hasWill && (topE p.will.topic != 0)) || (decide (0 < bits .and .i64 (pHas p) 4) && (topE p.msg.topic != 0))
def ck5 (p : Pkt) : Bool := numB p && (decide (p.id < 1) || decide (65535 < p.id))
def ck6 (p : Pkt) : Bool := decide ((65535 : Int) < (p.will.payload.length : Int)) || decide ((65535 : Int) < (p.pass.length : Int)) || decide (268435455 < lenP p)
def ck7 (p : Pkt) : Bool := (decide (0 < bits .and .i64 (pHas p) 16) && ((p.asks.length : Int) == 0)) || (decide (0 < bits .and .i64 (pHas p) 32) && ((p.codes.length : Int) == 0)) || (decide (0 < bits .and .i64 (pHas p) 64) && ((p.filters.length : Int) == 0))
def ck8 (p : Pkt) : Bool := (p.hasPass && !p.hasUser) || (p.dup && (p.msg.qos == 0)) || (p.present && (p.code != 0))
def pchk (p : Pkt) : Int := if !isKindB p.kind then 20 else if ck0 p then 21 else if ck1 p then 22 else if ck2 p then 23 else if !filtersB p then 24 else if !qualB p then 25 else if ck5 p then 26 else if ck6 p then 27 else if ck7 p then 28 else if ck8 p then 29 else 0
end Go.Proofs.YthlbcgaegaoanaaDoor.Cr

namespace Go.Proofs.YthlbcgaegaoanaaDoor.Cr
open Go Go.RowKit Go.Proofs.YthlbcgaegaoanaaDoorW.PrintWords Go.Proofs.YthlbcgaegaoanaaDoorW.PrintLast Go.Proofs.YthlbcgaegaoanaaDoorW.PrintMore Go.Proofs.YthlbcgaegaoanaaDoor.Kinds Go.Proofs.YthlbcgaegaoanaaDoor.Utf Go.Proofs.YthlbcgaegaoanaaDoor.Chk Go.Proofs.YthlbcgaegaoanaaDoor.Rdr
set_option linter.unusedVariables false
set_option linter.unusedSimpArgs false
set_option maxRecDepth 100000 in
theorem check_kind {w : World} (p : Pkt) (cs : List Value) (h : kPkt.K w p cs) (hk : isKindB p.kind = false) :
    Calls Tryd.prog 22 #[.agg cs.toArray] w fun e w' => e = .returned (.int .i64 (pchk p)) ∧ Below w.heap.size w w' := by
  obtain ⟨Aw, nw, Ap, np, Am, nm, Aa, na, Ac, nc, Af, nf, hcs, _⟩ := pkt_K h
  have HE := Aside0.mk (show pchk p = 20 by unfold pchk; rw [hk]; rfl)
  obtain ⟨X, hX⟩ : ∃ X : World, X = w.alloc (.cells cs.toArray 43) := ⟨_, rfl⟩
  have hBX : Below w.heap.size w X := by rw [hX]; exact below_alloc (Below.refl _ _) _
  have hg0 : X.heap[w.heap.size]? = some (.cells cs.toArray 43 (0, 0)) := by rw [hX]; exact heap_alloc_new _ _
  rw [hcs] at hg0
  have b0 : X.cell? ⟨w.heap.size, 0, none⟩ = some (.int .i64 p.kind) := blk_cell hg0 0
  have HX := Aside0.mk hX
  have HBX := Aside0.mk hBX
  clear h hcs hX hBX hg0
  go_enter Tryd.func22, Tryd.ntmps22
  go_upto_region 1 with fail
  refine wp_wld (w2 := X) (by rw [HX.out]) ?_
  clear HX
  go_wp2_with (go_at_call 37; (with_reducible refine (isKind_all p.kind _).mono ?_); rintro e w1 ⟨rfl, rfl⟩; rw [hk])
  go_ret
  exact ⟨by rw [HE.out]; rfl, HBX.out⟩
set_option maxRecDepth 100000 in
set_option maxHeartbeats 4000000 in
theorem check_rest {w : World} (hg : Gl w) (p : Pkt) (cs : List Value) (h : kPkt.K w p cs) (hk : isKindB p.kind = true) (h0 : 1 ≤ p.kind) (h1 : p.kind ≤ 14) (ha : p.asks.length ≤ 1099511627776) (hfl : p.filters.length ≤ 1099511627776) (hcl : p.codes.length ≤ 1099511627776) :
    Calls Tryd.prog 22 #[.agg cs.toArray] w fun e w' => e = .returned (.int .i64 (pchk p)) ∧ Below w.heap.size w w' := by
  obtain ⟨Aw, nw, Ap, np, Am, nm, Aa, na, Ac, nc, Af, nf, hcs, _⟩ := pkt_K h
  have HSZ := Aside0.mk (show (Tryd.prog.info? 43).map (·.size) = some (pktCells p (.slice Aw p.will.payload.length nw) (.slice Ap p.pass.length np) (.slice Am p.msg.payload.length nm) (.slice Aa p.asks.length na) (.slice Ac p.codes.length nc) (.slice Af p.filters.length nf)).toArray.size from pktSize)
  obtain ⟨X, hX⟩ : ∃ X : World, X = w.alloc (.cells cs.toArray 43) := ⟨_, rfl⟩
  have hBX : Below w.heap.size w X := by rw [hX]; exact below_alloc (Below.refl _ _) _
  have hg0 : X.heap[w.heap.size]? = some (.cells cs.toArray 43 (0, 0)) := by rw [hX]; exact heap_alloc_new _ _
  have gx0 := blk_lt hg0
  have hkx := kPkt.K_below hBX h
  rw [hcs] at hg0 hkx
  have HX := Aside0.mk hX
  have HBX := Aside0.mk hBX
  have HKX := Aside0.mk hkx
  have hgx := hg.below hBX hg.sz hBX.size
  have HGX := Aside0.mk hgx
  have HG0 := Aside0.mk hg0
  have HW0 := Aside0.mk (fun (w1 : World) (hb : Below X.heap.size X w1) => (hb.block _ gx0).trans hg0)
  have b0 : X.cell? ⟨w.heap.size, 0, none⟩ = some (.int .i64 p.kind) := blk_cell hg0 0
  have x2 : X.cell? ⟨1, p.kind.toNat, none⟩ = some (.int .i64 (pHas p)) := hgx.has p.kind.toNat (by omega)
  have q0 : (0 : Int) ≤ p.kind := by omega
  have q1 : p.kind < 15 := by omega
  obtain ⟨hh, hhh⟩ : ∃ hh, hh = pHas p := ⟨_, rfl⟩
  rw [← hhh] at x2
  have HHH := Aside0.mk hhh
  obtain ⟨a0, ha0⟩ : ∃ c : Bool, c = (forB p) := ⟨_, rfl⟩
  obtain ⟨c0, hc0⟩ : ∃ c : Bool, c = (a0 || decide (p.level < 0) || decide (255 < p.level) || decide (p.code < 0) || decide (255 < p.code) || decide (p.keep < 0) || decide (65535 < p.keep)) := ⟨_, rfl⟩
  have HE0 := Aside0.mk (show ck0 p = c0 by rw [hc0, ha0]; rfl)
  have HC0 := Aside0.mk hc0
  have HA0 := Aside0.mk ha0
  obtain ⟨a1, ha1⟩ : ∃ c : Bool, c = (!textB p.client) := ⟨_, rfl⟩
  obtain ⟨c1, hc1⟩ : ∃ c : Bool, c = (a1 || !textB p.user) := ⟨_, rfl⟩
  have HE1 := Aside0.mk (show ck1 p = c1 by rw [hc1, ha1]; rfl)
  have HC1 := Aside0.mk hc1
  have HA1 := Aside0.mk ha1
  obtain ⟨a2, ha2⟩ : ∃ c : Bool, c = (p.hasWill && (topE p.will.topic != 0)) := ⟨_, rfl⟩
  obtain ⟨c2, hc2⟩ : ∃ c : Bool, c = (a2 || (decide (0 < bits .and .i64 hh 4) && (topE p.msg.topic != 0))) := ⟨_, rfl⟩
  have HE2 := Aside0.mk (show ck2 p = c2 by rw [hc2, ha2, hhh]; rfl)
  have HC2 := Aside0.mk hc2
  have HA2 := Aside0.mk ha2
  obtain ⟨a3, ha3⟩ : ∃ c : Bool, c = (!filtersB p) := ⟨_, rfl⟩
  have HE3 := Aside0.mk (show (!filtersB p) = a3 by rw [ha3])
  have HA3 := Aside0.mk ha3
  obtain ⟨a4, ha4⟩ : ∃ c : Bool, c = (!qualB p) := ⟨_, rfl⟩
  have HE4 := Aside0.mk (show (!qualB p) = a4 by rw [ha4])
  have HA4 := Aside0.mk ha4
  obtain ⟨a5, ha5⟩ : ∃ c : Bool, c = (numB p && (decide (p.id < 1) || decide (65535 < p.id))) := ⟨_, rfl⟩
  have HE5 := Aside0.mk (show ck5 p = a5 by rw [ha5]; rfl)
  have HA5 := Aside0.mk ha5
  obtain ⟨a6, ha6⟩ : ∃ c : Bool, c = (decide ((65535 : Int) < (p.will.payload.length : Int))) := ⟨_, rfl⟩
  obtain ⟨c6, hc6⟩ : ∃ c : Bool, c = (a6 || decide ((65535 : Int) < (p.pass.length : Int)) || decide (268435455 < lenP p)) := ⟨_, rfl⟩
  have HE6 := Aside0.mk (show ck6 p = c6 by rw [hc6, ha6]; rfl)
  have HC6 := Aside0.mk hc6
  have HA6 := Aside0.mk ha6
  obtain ⟨a7, ha7⟩ : ∃ c : Bool, c = (decide (0 < bits .and .i64 hh 16) && ((p.asks.length : Int) == 0)) := ⟨_, rfl⟩
  obtain ⟨c7, hc7⟩ : ∃ c : Bool, c = (a7 || (decide (0 < bits .and .i64 hh 32) && ((p.codes.length : Int) == 0)) || (decide (0 < bits .and .i64 hh 64) && ((p.filters.length : Int) == 0))) := ⟨_, rfl⟩
  have HE7 := Aside0.mk (show ck7 p = c7 by rw [hc7, ha7, hhh]; rfl)
  have HC7 := Aside0.mk hc7
  have HA7 := Aside0.mk ha7
  obtain ⟨a8, ha8⟩ : ∃ c : Bool, c = (p.hasPass && !p.hasUser) := ⟨_, rfl⟩
  obtain ⟨c8, hc8⟩ : ∃ c : Bool, c = (a8 || (p.dup && (p.msg.qos == 0)) || (p.present && (p.code != 0))) := ⟨_, rfl⟩
  have HE8 := Aside0.mk (show ck8 p = c8 by rw [hc8, ha8]; rfl)
  have HC8 := Aside0.mk hc8
  have HA8 := Aside0.mk ha8
  clear h hg hcs hX hBX hg0 hkx hgx hhh ha0 ha1 ha2 ha3 ha4 ha5 ha6 ha7 ha8 hc0 hc1 hc2 hc6 hc7 hc8
  go_enter Tryd.func22, Tryd.ntmps22
  go_upto_region 1 with fail
  refine wp_wld (w2 := X) (by rw [HX.out]) ?_
  clear HX
  go_upto_region 4 with (go_at_call 37; (with_reducible refine (isKind_all p.kind _).mono ?_); rintro e w1 ⟨rfl, rfl⟩; rw [hk])
  clear b0 x2
  have HB : Aside0 (Below X.heap.size X X) := ⟨Below.refl _ _⟩
  have hwv : True := trivial
  go_upto_region 4 with fail
  go_cut [12] (fun s wx => s = .bool a0 ∧ Aside0 (Below X.heap.size X wx))
  case first =>
    as_aux_lemma =>
      have HP := Aside0.mk (HW0.out X HB.out)
      have HG := Aside0.mk (HGX.out.below HB.out HGX.out.sz HB.out.size)
      have HK := Aside0.mk (kPkt.K_below HB.out HKX.out)
      go_wp2_with (first
        | (refine wpList_load_row rfl 43 _ rfl w.heap.size rfl 43 _ (0, 0) _ HP.out Tryd.underlying43 rfl HSZ.out ?_)
        | (go_at_call 38; (with_reducible refine (foreign_any HG.out p _ HK.out h0 h1).mono ?_); rintro e w1 ⟨rfl, hB⟩; have HBn := Aside0.mk (HB.out.trans (hB.mono HB.out.size)); clear hB))
      all_goals
        go_meet
        case rel => exact ⟨by rw [HA0.out]; first | done | (simp_all; done) | (simp_all; omega) | (simp_all; intros; omega), (by first | exact HBn | exact HB)⟩
  case rest =>
    obtain ⟨rfl, HB2⟩ := hcut
    obtain ⟨wn0a, hwn⟩ : ∃ wx : World, wx = wc := ⟨_, rfl⟩
    subst hwn
    clear HB
    have HB := HB2
    clear HB2
    go_upto_if 12 with fail
    go_cut [12] (fun s wx => s = .bool c0 ∧ Aside0 (Below X.heap.size X wx))
    case first =>
      as_aux_lemma =>
        have HP := Aside0.mk (HW0.out wn0a HB.out)
        have HG := Aside0.mk (HGX.out.below HB.out HGX.out.sz HB.out.size)
        have HK := Aside0.mk (kPkt.K_below HB.out HKX.out)
        have b1 : wn0a.cell? ⟨w.heap.size, 1, none⟩ = some (.int .i64 p.level) := blk_cell (HW0.out wn0a HB.out) 1
        have b3 : wn0a.cell? ⟨w.heap.size, 3, none⟩ = some (.int .i64 p.keep) := blk_cell (HW0.out wn0a HB.out) 3
        have b15 : wn0a.cell? ⟨w.heap.size, 15, none⟩ = some (.int .i64 p.code) := blk_cell (HW0.out wn0a HB.out) 15
        go_wp2
        all_goals
          go_meet
          case rel => exact ⟨by rw [HC0.out]; first | done | (simp_all; done) | (simp_all; omega) | (simp_all; intros; omega), (by first | exact HBn | exact HB)⟩
    case rest =>
      obtain ⟨rfl, HB2⟩ := hcut
      obtain ⟨wn0b, hwn⟩ : ∃ wx : World, wx = wc := ⟨_, rfl⟩
      subst hwn
      clear HB
      have HB := HB2
      clear HB2
      cases c0 with
      | true =>
        go_wp2
        go_ret
        exact ⟨by simp [pchk, hk, HE0.out], HBX.out.trans (HB.out.mono HBX.out.size)⟩
      | false =>
        go_upto_region 12 with fail
        go_cut [33] (fun s wx => s = .bool a1 ∧ Aside0 (Below X.heap.size X wx))
        case first =>
          as_aux_lemma =>
            have HP := Aside0.mk (HW0.out wn0b HB.out)
            have HG := Aside0.mk (HGX.out.below HB.out HGX.out.sz HB.out.size)
            have HK := Aside0.mk (kPkt.K_below HB.out HKX.out)
            have b4 : wn0b.cell? ⟨w.heap.size, 4, none⟩ = some (.string p.client) := blk_cell (HW0.out wn0b HB.out) 4
            go_wp2_with (first
              | (go_at_call 39; (with_reducible refine (ptext_any p.client _).mono ?_); rintro e w1 ⟨rfl, hB⟩; have HBn := Aside0.mk (HB.out.trans (hB.mono HB.out.size)); clear hB))
            all_goals
              go_meet
              case rel => exact ⟨by rw [HA1.out]; first | done | (simp_all; done) | (simp_all; omega) | (simp_all; intros; omega), (by first | exact HBn | exact HB)⟩
        case rest =>
          obtain ⟨rfl, HB2⟩ := hcut
          obtain ⟨wn1a, hwn⟩ : ∃ wx : World, wx = wc := ⟨_, rfl⟩
          subst hwn
          clear HB
          have HB := HB2
          clear HB2
          go_upto_if 33 with fail
          go_cut [33] (fun s wx => s = .bool c1 ∧ Aside0 (Below X.heap.size X wx))
          case first =>
            as_aux_lemma =>
              have HP := Aside0.mk (HW0.out wn1a HB.out)
              have HG := Aside0.mk (HGX.out.below HB.out HGX.out.sz HB.out.size)
              have HK := Aside0.mk (kPkt.K_below HB.out HKX.out)
              have b11 : wn1a.cell? ⟨w.heap.size, 11, none⟩ = some (.string p.user) := blk_cell (HW0.out wn1a HB.out) 11
              go_wp2_with (first
                | (go_at_call 39; (with_reducible refine (ptext_any p.user _).mono ?_); rintro e w1 ⟨rfl, hB⟩; have HBn := Aside0.mk (HB.out.trans (hB.mono HB.out.size)); clear hB))
              all_goals
                go_meet
                case rel => exact ⟨by rw [HC1.out]; first | done | (simp_all; done) | (simp_all; omega) | (simp_all; intros; omega), (by first | exact HBn | exact HB)⟩
          case rest =>
            obtain ⟨rfl, HB2⟩ := hcut
            obtain ⟨wn1b, hwn⟩ : ∃ wx : World, wx = wc := ⟨_, rfl⟩
            subst hwn
            clear HB
            have HB := HB2
            clear HB2
            cases c1 with
            | true =>
              go_wp2
              go_ret
              exact ⟨by simp [pchk, hk, HE0.out, HE1.out], HBX.out.trans (HB.out.mono HBX.out.size)⟩
            | false =>
              go_upto_region 15 with fail
              go_cut [42] (fun s wx => s = .bool a2 ∧ Aside0 (Below X.heap.size X wx))
              case first =>
                as_aux_lemma =>
                  have HP := Aside0.mk (HW0.out wn1b HB.out)
                  have HG := Aside0.mk (HGX.out.below HB.out HGX.out.sz HB.out.size)
                  have HK := Aside0.mk (kPkt.K_below HB.out HKX.out)
                  have b5 : wn1b.cell? ⟨w.heap.size, 5, none⟩ = some (.bool p.hasWill) := blk_cell (HW0.out wn1b HB.out) 5
                  have b6 : wn1b.cell? ⟨w.heap.size, 6, none⟩ = some (.string p.will.topic) := blk_cell (HW0.out wn1b HB.out) 6
                  go_wp2_with (first
                    | (go_at_call 40; (with_reducible refine (topicCheck_any p.will.topic _).mono ?_); rintro e w1 ⟨rfl, hB⟩; have HBn := Aside0.mk (HB.out.trans (hB.mono HB.out.size)); clear hB))
                  all_goals
                    go_meet
                    case rel => exact ⟨by rw [HA2.out]; first | done | (simp_all; done) | (simp_all; omega) | (simp_all; intros; omega), (by first | exact HBn | exact HB)⟩
              case rest =>
                obtain ⟨rfl, HB2⟩ := hcut
                obtain ⟨wn2a, hwn⟩ : ∃ wx : World, wx = wc := ⟨_, rfl⟩
                subst hwn
                clear HB
                have HB := HB2
                clear HB2
                go_upto_if 42 with fail
                go_cut [42] (fun s wx => s = .bool c2 ∧ Aside0 (Below X.heap.size X wx))
                case first =>
                  as_aux_lemma =>
                    have HP := Aside0.mk (HW0.out wn2a HB.out)
                    have HG := Aside0.mk (HGX.out.below HB.out HGX.out.sz HB.out.size)
                    have HK := Aside0.mk (kPkt.K_below HB.out HKX.out)
                    have b17 : wn2a.cell? ⟨w.heap.size, 17, none⟩ = some (.string p.msg.topic) := blk_cell (HW0.out wn2a HB.out) 17
                    go_wp2_with (first
                      | (go_at_call 40; (with_reducible refine (topicCheck_any p.msg.topic _).mono ?_); rintro e w1 ⟨rfl, hB⟩; have HBn := Aside0.mk (HB.out.trans (hB.mono HB.out.size)); clear hB))
                    all_goals
                      go_meet
                      case rel => exact ⟨by rw [HC2.out]; first | done | (simp_all; done) | (simp_all; omega) | (simp_all; intros; omega), (by first | exact HBn | exact HB)⟩
                case rest =>
                  obtain ⟨rfl, HB2⟩ := hcut
                  obtain ⟨wn2b, hwn⟩ : ∃ wx : World, wx = wc := ⟨_, rfl⟩
                  subst hwn
                  clear HB
                  have HB := HB2
                  clear HB2
                  cases c2 with
                  | true =>
                    go_wp2
                    go_ret
                    exact ⟨by simp [pchk, hk, HE0.out, HE1.out, HE2.out], HBX.out.trans (HB.out.mono HBX.out.size)⟩
                  | false =>
                    go_upto_region 18 with fail
                    go_cut [62] (fun s wx => s = .bool a3 ∧ Aside0 (Below X.heap.size X wx))
                    case first =>
                      as_aux_lemma =>
                        have HP := Aside0.mk (HW0.out wn2b HB.out)
                        have HG := Aside0.mk (HGX.out.below HB.out HGX.out.sz HB.out.size)
                        have HK := Aside0.mk (kPkt.K_below HB.out HKX.out)
                        go_wp2_with (first
                          | (refine wpList_load_row rfl 43 _ rfl w.heap.size rfl 43 _ (0, 0) _ HP.out Tryd.underlying43 rfl HSZ.out ?_)
                          | (go_at_call 41; (with_reducible refine (filters_any p _ _ HK.out hfl ha).mono ?_); rintro e w1 ⟨rfl, hB⟩; have HBn := Aside0.mk (HB.out.trans (hB.mono HB.out.size)); clear hB))
                        all_goals
                          go_meet
                          case rel => exact ⟨by rw [HA3.out]; first | done | (simp_all; done) | (simp_all; omega) | (simp_all; intros; omega), (by first | exact HBn | exact HB)⟩
                    case rest =>
                      obtain ⟨rfl, HB2⟩ := hcut
                      obtain ⟨wn3a, hwn⟩ : ∃ wx : World, wx = wc := ⟨_, rfl⟩
                      subst hwn
                      clear HB
                      have HB := HB2
                      clear HB2
                      cases a3 with
                      | true =>
                        go_wp2
                        go_ret
                        exact ⟨by simp [pchk, hk, HE0.out, HE1.out, HE2.out, HE3.out], HBX.out.trans (HB.out.mono HBX.out.size)⟩
                      | false =>
                        go_upto_region 20 with fail
                        go_cut [66] (fun s wx => s = .bool a4 ∧ Aside0 (Below X.heap.size X wx))
                        case first =>
                          as_aux_lemma =>
                            have HP := Aside0.mk (HW0.out wn3a HB.out)
                            have HG := Aside0.mk (HGX.out.below HB.out HGX.out.sz HB.out.size)
                            have HK := Aside0.mk (kPkt.K_below HB.out HKX.out)
                            go_wp2_with (first
                              | (refine wpList_load_row rfl 43 _ rfl w.heap.size rfl 43 _ (0, 0) _ HP.out Tryd.underlying43 rfl HSZ.out ?_)
                              | (go_at_call 42; (with_reducible refine (qualities_any p _ _ HK.out ha hcl).mono ?_); rintro e w1 ⟨rfl, hB⟩; have HBn := Aside0.mk (HB.out.trans (hB.mono HB.out.size)); clear hB))
                            all_goals
                              go_meet
                              case rel => exact ⟨by rw [HA4.out]; first | done | (simp_all; done) | (simp_all; omega) | (simp_all; intros; omega), (by first | exact HBn | exact HB)⟩
                        case rest =>
                          obtain ⟨rfl, HB2⟩ := hcut
                          obtain ⟨wn4a, hwn⟩ : ∃ wx : World, wx = wc := ⟨_, rfl⟩
                          subst hwn
                          clear HB
                          have HB := HB2
                          clear HB2
                          cases a4 with
                          | true =>
                            go_wp2
                            go_ret
                            exact ⟨by simp [pchk, hk, HE0.out, HE1.out, HE2.out, HE3.out, HE4.out], HBX.out.trans (HB.out.mono HBX.out.size)⟩
                          | false =>
                            go_upto_region 22 with fail
                            go_cut [70] (fun s wx => s = .bool a5 ∧ Aside0 (Below X.heap.size X wx))
                            case first =>
                              as_aux_lemma =>
                                have HP := Aside0.mk (HW0.out wn4a HB.out)
                                have HG := Aside0.mk (HGX.out.below HB.out HGX.out.sz HB.out.size)
                                have HK := Aside0.mk (kPkt.K_below HB.out HKX.out)
                                go_wp2_with (first
                                  | (refine wpList_load_row rfl 43 _ rfl w.heap.size rfl 43 _ (0, 0) _ HP.out Tryd.underlying43 rfl HSZ.out ?_)
                                  | (go_at_call 43; (with_reducible refine (numbered_any HG.out p _ HK.out h0 h1).mono ?_); rintro e w1 ⟨rfl, hB⟩; have HBn := Aside0.mk (HB.out.trans (hB.mono HB.out.size)); clear hB; have b21 : w1.cell? ⟨w.heap.size, 21, none⟩ = some (.int .i64 p.id) := blk_cell (HW0.out w1 HBn.out) 21))
                                all_goals
                                  go_meet
                                  case rel => exact ⟨by rw [HA5.out]; first | done | (simp_all; done) | (simp_all; omega) | (simp_all; intros; omega), (by first | exact HBn | exact HB)⟩
                            case rest =>
                              obtain ⟨rfl, HB2⟩ := hcut
                              obtain ⟨wn5a, hwn⟩ : ∃ wx : World, wx = wc := ⟨_, rfl⟩
                              subst hwn
                              clear HB
                              have HB := HB2
                              clear HB2
                              cases a5 with
                              | true =>
                                go_wp2
                                go_ret
                                exact ⟨by simp [pchk, hk, HE0.out, HE1.out, HE2.out, HE3.out, HE4.out, HE5.out], HBX.out.trans (HB.out.mono HBX.out.size)⟩
                              | false =>
                                go_upto_region 24 with fail
                                go_cut [83] (fun s wx => s = .bool a6 ∧ Aside0 (Below X.heap.size X wx))
                                case first =>
                                  as_aux_lemma =>
                                    have HP := Aside0.mk (HW0.out wn5a HB.out)
                                    have HG := Aside0.mk (HGX.out.below HB.out HGX.out.sz HB.out.size)
                                    have HK := Aside0.mk (kPkt.K_below HB.out HKX.out)
                                    have b7 : wn5a.cell? ⟨w.heap.size, 7, none⟩ = some (.slice Aw p.will.payload.length nw) := blk_cell (HW0.out wn5a HB.out) 7
                                    go_wp2
                                    all_goals
                                      go_meet
                                      case rel => exact ⟨by rw [HA6.out]; first | done | (simp_all; done) | (simp_all; omega) | (simp_all; intros; omega), (by first | exact HBn | exact HB)⟩
                                case rest =>
                                  obtain ⟨rfl, HB2⟩ := hcut
                                  obtain ⟨wn6a, hwn⟩ : ∃ wx : World, wx = wc := ⟨_, rfl⟩
                                  subst hwn
                                  clear HB
                                  have HB := HB2
                                  clear HB2
                                  go_upto_if 83 with fail
                                  go_cut [83] (fun s wx => s = .bool c6 ∧ Aside0 (Below X.heap.size X wx))
                                  case first =>
                                    as_aux_lemma =>
                                      have HP := Aside0.mk (HW0.out wn6a HB.out)
                                      have HG := Aside0.mk (HGX.out.below HB.out HGX.out.sz HB.out.size)
                                      have HK := Aside0.mk (kPkt.K_below HB.out HKX.out)
                                      have b13 : wn6a.cell? ⟨w.heap.size, 13, none⟩ = some (.slice Ap p.pass.length np) := blk_cell (HW0.out wn6a HB.out) 13
                                      go_wp2_with (first
                                        | (refine wpList_load_row rfl 43 _ rfl w.heap.size rfl 43 _ (0, 0) _ HP.out Tryd.underlying43 rfl HSZ.out ?_)
                                        | (go_at_call 44; (with_reducible refine (length_any HG.out p _ HK.out h0 h1 ha hfl).mono ?_); rintro e w1 ⟨rfl, hB⟩; have HBn := Aside0.mk (HB.out.trans (hB.mono HB.out.size)); clear hB))
                                      all_goals
                                        go_meet
                                        case rel => exact ⟨by rw [HC6.out]; first | done | (simp_all; done) | (simp_all; omega) | (simp_all; intros; omega), (by first | exact HBn | exact HB)⟩
                                  case rest =>
                                    obtain ⟨rfl, HB2⟩ := hcut
                                    obtain ⟨wn6b, hwn⟩ : ∃ wx : World, wx = wc := ⟨_, rfl⟩
                                    subst hwn
                                    clear HB
                                    have HB := HB2
                                    clear HB2
                                    cases c6 with
                                    | true =>
                                      go_wp2
                                      go_ret
                                      exact ⟨by simp [pchk, hk, HE0.out, HE1.out, HE2.out, HE3.out, HE4.out, HE5.out, HE6.out], HBX.out.trans (HB.out.mono HBX.out.size)⟩
                                    | false =>
                                      go_upto_region 28 with fail
                                      go_cut [96] (fun s wx => s = .bool a7 ∧ Aside0 (Below X.heap.size X wx))
                                      case first =>
                                        as_aux_lemma =>
                                          have HP := Aside0.mk (HW0.out wn6b HB.out)
                                          have HG := Aside0.mk (HGX.out.below HB.out HGX.out.sz HB.out.size)
                                          have HK := Aside0.mk (kPkt.K_below HB.out HKX.out)
                                          have b22 : wn6b.cell? ⟨w.heap.size, 22, none⟩ = some (.slice Aa p.asks.length na) := blk_cell (HW0.out wn6b HB.out) 22
                                          go_wp2
                                          all_goals
                                            go_meet
                                            case rel => exact ⟨by rw [HA7.out]; first | done | (simp_all; done) | (simp_all; omega) | (simp_all; intros; omega), (by first | exact HBn | exact HB)⟩
                                      case rest =>
                                        obtain ⟨rfl, HB2⟩ := hcut
                                        obtain ⟨wn7a, hwn⟩ : ∃ wx : World, wx = wc := ⟨_, rfl⟩
                                        subst hwn
                                        clear HB
                                        have HB := HB2
                                        clear HB2
                                        go_upto_if 96 with fail
                                        go_cut [96] (fun s wx => s = .bool c7 ∧ Aside0 (Below X.heap.size X wx))
                                        case first =>
                                          as_aux_lemma =>
                                            have HP := Aside0.mk (HW0.out wn7a HB.out)
                                            have HG := Aside0.mk (HGX.out.below HB.out HGX.out.sz HB.out.size)
                                            have HK := Aside0.mk (kPkt.K_below HB.out HKX.out)
                                            have b23 : wn7a.cell? ⟨w.heap.size, 23, none⟩ = some (.slice Ac p.codes.length nc) := blk_cell (HW0.out wn7a HB.out) 23
                                            have b24 : wn7a.cell? ⟨w.heap.size, 24, none⟩ = some (.slice Af p.filters.length nf) := blk_cell (HW0.out wn7a HB.out) 24
                                            go_wp2
                                            all_goals
                                              go_meet
                                              case rel => exact ⟨by rw [HC7.out]; first | done | (simp_all; done) | (simp_all; omega) | (simp_all; intros; omega), (by first | exact HBn | exact HB)⟩
                                        case rest =>
                                          obtain ⟨rfl, HB2⟩ := hcut
                                          obtain ⟨wn7b, hwn⟩ : ∃ wx : World, wx = wc := ⟨_, rfl⟩
                                          subst hwn
                                          clear HB
                                          have HB := HB2
                                          clear HB2
                                          cases c7 with
                                          | true =>
                                            go_wp2
                                            go_ret
                                            exact ⟨by simp [pchk, hk, HE0.out, HE1.out, HE2.out, HE3.out, HE4.out, HE5.out, HE6.out, HE7.out], HBX.out.trans (HB.out.mono HBX.out.size)⟩
                                          | false =>
                                            go_upto_region 32 with fail
                                            go_cut [124] (fun s wx => s = .bool a8 ∧ Aside0 (Below X.heap.size X wx))
                                            case first =>
                                              as_aux_lemma =>
                                                have HP := Aside0.mk (HW0.out wn7b HB.out)
                                                have HG := Aside0.mk (HGX.out.below HB.out HGX.out.sz HB.out.size)
                                                have HK := Aside0.mk (kPkt.K_below HB.out HKX.out)
                                                have b12 : wn7b.cell? ⟨w.heap.size, 12, none⟩ = some (.bool p.hasPass) := blk_cell (HW0.out wn7b HB.out) 12
                                                have b10 : wn7b.cell? ⟨w.heap.size, 10, none⟩ = some (.bool p.hasUser) := blk_cell (HW0.out wn7b HB.out) 10
                                                go_wp2
                                                all_goals
                                                  go_meet
                                                  case rel => exact ⟨by rw [HA8.out]; first | done | (simp_all; done) | (simp_all; omega) | (simp_all; intros; omega), (by first | exact HBn | exact HB)⟩
                                            case rest =>
                                              obtain ⟨rfl, HB2⟩ := hcut
                                              obtain ⟨wn8a, hwn⟩ : ∃ wx : World, wx = wc := ⟨_, rfl⟩
                                              subst hwn
                                              clear HB
                                              have HB := HB2
                                              clear HB2
                                              go_upto_if 124 with fail
                                              go_cut [124] (fun s wx => s = .bool c8 ∧ Aside0 (Below X.heap.size X wx))
                                              case first =>
                                                as_aux_lemma =>
                                                  have HP := Aside0.mk (HW0.out wn8a HB.out)
                                                  have HG := Aside0.mk (HGX.out.below HB.out HGX.out.sz HB.out.size)
                                                  have HK := Aside0.mk (kPkt.K_below HB.out HKX.out)
                                                  have b16 : wn8a.cell? ⟨w.heap.size, 16, none⟩ = some (.bool p.dup) := blk_cell (HW0.out wn8a HB.out) 16
                                                  have b19 : wn8a.cell? ⟨w.heap.size, 19, none⟩ = some (.int .i64 p.msg.qos) := blk_cell (HW0.out wn8a HB.out) 19
                                                  have b14 : wn8a.cell? ⟨w.heap.size, 14, none⟩ = some (.bool p.present) := blk_cell (HW0.out wn8a HB.out) 14
                                                  have b15 : wn8a.cell? ⟨w.heap.size, 15, none⟩ = some (.int .i64 p.code) := blk_cell (HW0.out wn8a HB.out) 15
                                                  go_wp2
                                                  all_goals
                                                    go_meet
                                                    case rel => exact ⟨by rw [HC8.out]; first | done | (simp_all; done) | (simp_all; omega) | (simp_all; intros; omega), (by first | exact HBn | exact HB)⟩
                                              case rest =>
                                                obtain ⟨rfl, HB2⟩ := hcut
                                                obtain ⟨wn8b, hwn⟩ : ∃ wx : World, wx = wc := ⟨_, rfl⟩
                                                subst hwn
                                                clear HB
                                                have HB := HB2
                                                clear HB2
                                                cases c8 with
                                                | true =>
                                                  go_wp2
                                                  go_ret
                                                  exact ⟨by simp [pchk, hk, HE0.out, HE1.out, HE2.out, HE3.out, HE4.out, HE5.out, HE6.out, HE7.out, HE8.out], HBX.out.trans (HB.out.mono HBX.out.size)⟩
                                                | false =>
                                                  go_wp2
                                                  go_ret
                                                  exact ⟨by simp [pchk, hk, HE0.out, HE1.out, HE2.out, HE3.out, HE4.out, HE5.out, HE6.out, HE7.out, HE8.out], HBX.out.trans (HB.out.mono HBX.out.size)⟩
end Go.Proofs.YthlbcgaegaoanaaDoor.Cr

namespace Go.Proofs.YthlbcgaegaoanaaDoor.Cr
open Go Go.RowKit Go.Proofs.YthlbcgaegaoanaaDoorW.PrintWords Go.Proofs.YthlbcgaegaoanaaDoorW.PrintLast Go.Proofs.YthlbcgaegaoanaaDoorW.PrintMore Go.Proofs.YthlbcgaegaoanaaDoor.Kinds Go.Proofs.YthlbcgaegaoanaaDoor.Utf Go.Proofs.YthlbcgaegaoanaaDoor.Chk Go.Proofs.YthlbcgaegaoanaaDoor.Rdr
theorem pcheck_any {w : World} (hg : Gl w) (p : Pkt) (cs : List Value) (h : kPkt.K w p cs) (ha : p.asks.length ≤ 1099511627776) (hfl : p.filters.length ≤ 1099511627776) (hcl : p.codes.length ≤ 1099511627776) :
    Calls Tryd.prog 22 #[.agg cs.toArray] w fun e w' => e = .returned (.int .i64 (pchk p)) ∧ Below w.heap.size w w' := by
  cases hk : isKindB p.kind with
  | false => exact check_kind p cs h hk
  | true =>
    have hb : 1 ≤ p.kind ∧ p.kind ≤ 14 := by
      unfold isKindB at hk
      simpa using hk
    exact check_rest hg p cs h hk hb.1 hb.2 ha hfl hcl
end Go.Proofs.YthlbcgaegaoanaaDoor.Cr

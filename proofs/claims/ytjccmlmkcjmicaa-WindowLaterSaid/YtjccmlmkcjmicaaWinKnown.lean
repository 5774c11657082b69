/- The walk of crierlaw12.known: the chapter's example. No condition. -/
import Derived.Test.YtjccmlmkcjmicaaWinFew
namespace Go.Proofs.Ytjccmlmkcjmicaa.Win
open Go Go.RowKit Go.Maps Go.MapKept Go.ChangeMaps Go.Proofs.YtjccmlmkcjmicaaW.PrintWords Go.Proofs.Ytjccmlmkcjmicaa.Kinds
set_option linter.unusedVariables false
set_option linter.unusedSimpArgs false

theorem num_any (n : Int) (w : World) : Calls Try.prog 25 #[.int .i64 n] w fun e w' => e = .returned (.int .i64 n) ∧ w = w' := by
  go_enter Try.func25, Try.ntmps25
  go_wp2
  go_ret
  exact ⟨rfl, rfl⟩

/-- the blocks from base on, but those of av -/
def away (base : Nat) (av : Nat → Prop) : Nat → Prop := fun k => base ≤ k ∧ ¬ av k
theorem away_base {base : Nat} {av : Nat → Prop} (k : Nat) (h : away base av k) : base ≤ k := h.1
theorem FillAt.away {w X w0 : World} {base B : Nat} {av okp : Nat → Prop} {s : WS} {v : Value} {ps : List Pkt} (h : FillAt w base (away base av) B w0 v ps okp s X) (hav : ∀ k, av k → k < w.heap.size) (hb : base ≤ w.heap.size) :
    WinAt' X base (Win.away base (fun k => av k ∨ okp k)) B s ∧ (∀ k, av k ∨ okp k → k < X.heap.size) := by
  refine ⟨h.win.mono (fun k hk => ?_), fun k hk => ?_⟩
  · obtain ⟨hn, hp⟩ := hk
    rcases hn with ⟨h1, h2⟩ | ⟨h1, h2⟩
    · exact ⟨h1, fun e => e.elim h2 hp⟩
    · exact ⟨by omega, fun e => e.elim (fun e => by have := hav k e; omega) hp⟩
  · rcases hk with h1 | h1
    · exact Nat.lt_of_lt_of_le (hav k h1) h.fr.size
    · exact (h.new k h1).2
/-- .. where the packets are of no more use -/
theorem FillAt.away' {w X w0 : World} {base B : Nat} {av okp : Nat → Prop} {s : WS} {v : Value} {ps : List Pkt} (h : FillAt w base (Win.away base av) B w0 v ps okp s X) (hav : ∀ k, av k → k < w.heap.size) (hb : base ≤ w.heap.size) :
    WinAt' X base (Win.away base av) B s :=
  (h.away hav hb).1.mono (fun k hk => ⟨hk.1, fun e => hk.2 (.inl e)⟩)

/-- one packet, laid open -/
structure OneAt (X : World) (g : Nat) (p : Pkt) : Prop where
  kind : X.cell? ⟨g, 0, none⟩ = some (.int .i64 p.kind)
  dup : X.cell? ⟨g, 16, none⟩ = some (.bool p.dup)
  topic : X.cell? ⟨g, 17, none⟩ = some (.string p.msg.topic)
  id : X.cell? ⟨g, 21, none⟩ = some (.int .i64 p.id)
theorem R_empty_val {X : World} {base : Nat} {okp : Nat → Prop} {v : Value} (h : kPkt.R 75 X base okp v []) : ∃ A c, v = .slice A 0 c := by
  obtain ⟨A, c, hv⟩ := Kd.R_slice h
  exact ⟨A, c, hv⟩
theorem R_one_val {X : World} {base : Nat} {okp : Nat → Prop} {v : Value} {p : Pkt} (h : kPkt.R 75 X base okp v [p]) : ∃ g c, v = .slice (some ⟨g, 0, none⟩) 1 c ∧ OneAt X g p := by
  obtain ⟨inner, ho⟩ := Kd.R_own h
  rcases ho.2 with ⟨rfl, hn⟩ | ⟨g, cap, cur, rfl, r⟩
  · have := (Kd.R_reads' h).2.2
    obtain ⟨ad, c, e, _⟩ := Kd.C_get this noPkt 0 (by omega) (by simp)
    cases e
  · have := (Kd.R_reads' h).2.2
    obtain ⟨ad, c, e, _, hK, hc0⟩ := Kd.C_get this noPkt 0 (by omega) (by simp)
    injection e with e
    subst e
    obtain ⟨Aw, nw, Ap, np, Am, nm, Aa, na, Ac, nc, Af, nf, rfl, _⟩ := pkt_K hK
    have hc : ∀ j u, (pktCells p (.slice Aw p.will.payload.length nw) (.slice Ap p.pass.length np) (.slice Am p.msg.payload.length nm) (.slice Aa p.asks.length na) (.slice Ac p.codes.length nc) (.slice Af p.filters.length nf))[j]? = some u → X.cell? ⟨g, j, none⟩ = some u := fun j u hj => by
      have := hc0 j u hj
      rw [show (Int.toNat 0 * kPkt.sz + j) = j by simp] at this
      rw [Go.Proofs.YtjccmlmkcjmicaaW.PrintWords.add_plain] at this
      simpa using this
    exact ⟨g, cap, rfl, hc 0 _ rfl, hc 16 _ rfl, hc 17 _ rfl, hc 21 _ rfl⟩

def mA : Msg := ⟨⟨#[97]⟩, [], 2, false⟩
def mB : Msg := ⟨⟨#[98]⟩, [], 1, false⟩
def mC : Msg := ⟨⟨#[99]⟩, [], 1, false⟩
def mD : Msg := ⟨⟨#[99]⟩, [], 0, false⟩
def kS0 : WS := { window := 1, queue := 1, last := 0, flights := [], waits := [], D := .map [], online := false }
def kS1 : WS := { kS0 with waits := [mA] }
def kS2 : WS := { kS0 with last := 1, flights := [⟨1, mA, false⟩], online := true }
def kS3 : WS := { kS2 with waits := [mB] }
def kS4 : WS := { kS3 with flights := [⟨1, noMsg, true⟩] }
def kS5 : WS := { kS4 with online := false }
def kS7 : WS := { kS0 with last := 2, flights := [⟨2, mB, false⟩], online := true }
theorem kS0_eq : newS 1 1 = kS0 := rfl
theorem num_first {fl : List Flt} {D : DataW Unit} {l : Int} (h : Maps.has D (.int .i64 (l % 65535 + 1)) = false ∧ placeL fl (l % 65535 + 1) < 0) : numL fl D 65535 l = l % 65535 + 1 := by
  show numL fl D (65534 + 1) l = _
  rw [numL, if_pos h]
theorem k1 : sendF kS0 mA = ⟨[], true, 0, kS1⟩ := rfl
theorem k2 : upF kS1 = ([pktOf ⟨1, mA, false⟩ false], kS2) := by
  have hn : nextN { { kS1 with online := true } with waits := [] } = 1 := num_first ⟨rfl, by decide⟩
  unfold upF
  rw [fillF_step { kS1 with online := true } mA [] rfl ⟨rfl, by decide⟩, fillF_end _ (fun h => h.2.2 rfl)]
  unfold launchP launchS
  rw [hn]
  rfl
theorem k3 : sendF kS2 mB = ⟨[], true, 0, kS3⟩ := rfl
theorem k4 : sendF kS3 mC = ⟨[], false, 0, kS3⟩ := rfl
theorem k5 : sendF kS3 mD = ⟨[], false, 122, kS3⟩ := rfl
theorem k6 : ackF kS3 4 1 = ([], kS3) := rfl
theorem k7 : ackF kS3 5 1 = ([pktOf ⟨1, noMsg, true⟩ false], kS4) := rfl
theorem k9 : upF kS5 = ([pktOf ⟨1, noMsg, true⟩ true], kS4) := rfl
theorem k10 : ackF kS4 7 1 = ([pktOf ⟨2, mB, false⟩ false], kS7) := by
  have hn : nextN { { kS4 with flights := [] } with waits := [] } = 2 := num_first ⟨rfl, by decide⟩
  have h0 : ackF kS4 7 1 = fillF { kS4 with flights := [] } := rfl
  rw [h0, fillF_step { kS4 with flights := [] } mB [] rfl ⟨rfl, by decide⟩, fillF_end _ (fun h => h.2.2 rfl)]
  unfold launchP launchS
  rw [hn]
  rfl
theorem kS_ok (s : WS) (h1 : s.window = 1) (h2 : s.queue = 1) (h3 : 0 ≤ s.last ∧ s.last ≤ 2) (h4 : s.flights.length ≤ 1) (h5 : s.waits.length ≤ 1) : WOk s := ⟨by omega, by omega, by omega, by omega, by omega, by omega, by omega, by omega⟩
theorem kS_pl (s : WS) (h4 : ∀ f ∈ s.flights, f.msg.payload = []) (h5 : ∀ m ∈ s.waits, m.payload = []) : WPl s := ⟨fun m hm => by unfold Short; rw [h5 m hm]; simp, fun f hf => by unfold Short; rw [h4 f hf]; simp⟩
theorem noC (w : World) : (Kd.int .u8).C w none ([] : List Int).length [] := Kd.C_nil _ _
theorem short0 {m : Msg} (h : m.payload = []) : Short m := by unfold Short; rw [h]; simp

set_option maxRecDepth 100000 in
set_option maxHeartbeats 4000000 in
theorem known_any (w : World) : Calls Try.prog 28 #[] w fun e w' => e = .returned (.bool true) ∧ Below w.heap.size w w' := by
  go_enter Try.func28, Try.ntmps28
  go_wp2_with fail
  refine (new_any 1 1 w).mono ?_
  rintro e w1 ⟨B, rfl, hw, hb⟩
  have H := Aside0.mk (show WinAt' w1 w.heap.size (away w.heap.size (fun _ => False)) B kS0 from hw.mono (fun k hk => ⟨hk.1, fun e => e⟩))
  have HB := Aside0.mk hb
  have hz := hb.size
  clear hw hb
  go_wp2_with fail
  have HS := send_any H.out (kS_ok kS0 rfl rfl (by decide) (by decide) (by decide)) mA none 0 w HB.out hz (noC _) (short0 rfl)
  rw [k1] at HS
  refine HS.mono ?_
  rintro e w2 ⟨v1, okp1, rfl, hF⟩
  have H2 := Aside0.mk (hF.away' (fun _ h => h.elim) hz)
  have HB2 := Aside0.mk hF.bel
  have hz2 := hF.fr.size
  obtain ⟨A1, c1, rfl⟩ := R_empty_val hF.pk
  clear H HB HS hF
  go_wp2_with fail
  have HS := up_any H2.out (kS_ok kS1 rfl rfl (by decide) (by decide) (by decide)) (kS_pl _ (by simp [kS1, kS0]) (by simp [kS1, kS0, mA])) w HB2.out (by omega)
  rw [k2] at HS
  refine HS.mono ?_
  rintro e w3 ⟨v2, okp2, rfl, hF⟩
  have H3 := Aside0.mk (hF.away' (fun _ h => h.elim) (by omega))
  have HB3 := Aside0.mk hF.bel
  have hz3 := hF.fr.size
  obtain ⟨g2, c2, rfl, hO⟩ := R_one_val hF.pk
  clear H2 HB2 HS hF
  have f0 : w3.cell? ⟨g2, 0, none⟩ = some (.int .i64 3) := hO.kind
  have f1 : w3.cell? ⟨g2, 16, none⟩ = some (.bool false) := hO.dup
  have f2 : w3.cell? ⟨g2, 17, none⟩ = some (.string ⟨#[97]⟩) := hO.topic
  have f3 : w3.cell? ⟨g2, 21, none⟩ = some (.int .i64 1) := hO.id
  clear hO
  go_wp2_with fail
  clear f0 f1 f2 f3
  have HS := send_any H3.out (kS_ok kS2 rfl rfl (by decide) (by decide) (by decide)) mB none 0 w HB3.out (by omega) (noC _) (short0 rfl)
  rw [k3] at HS
  refine HS.mono ?_
  rintro e w4 ⟨v3, okp3, rfl, hF⟩
  have H4 := Aside0.mk (hF.away' (fun _ h => h.elim) (by omega))
  have HB4 := Aside0.mk hF.bel
  have hz4 := hF.fr.size
  obtain ⟨A3, c3, rfl⟩ := R_empty_val hF.pk
  clear H3 HB3 HS hF
  go_wp2_with fail
  have HS := send_any H4.out (kS_ok kS3 rfl rfl (by decide) (by decide) (by decide)) mC none 0 w HB4.out (by omega) (noC _) (short0 rfl)
  rw [k4] at HS
  refine HS.mono ?_
  rintro e w5 ⟨v4, okp4, rfl, hF⟩
  have H5 := Aside0.mk (hF.away' (fun _ h => h.elim) (by omega))
  have HB5 := Aside0.mk hF.bel
  have hz5 := hF.fr.size
  obtain ⟨A4, c4, rfl⟩ := R_empty_val hF.pk
  clear H4 HB4 HS hF
  go_wp2_with fail
  have HS := send_any H5.out (kS_ok kS3 rfl rfl (by decide) (by decide) (by decide)) mD none 0 w HB5.out (by omega) (noC _) (short0 rfl)
  rw [k5] at HS
  refine HS.mono ?_
  rintro e w6 ⟨v5, okp5, rfl, hF⟩
  have H6 := Aside0.mk (hF.away' (fun _ h => h.elim) (by omega))
  have HB6 := Aside0.mk hF.bel
  have hz6 := hF.fr.size
  obtain ⟨A5, c5, rfl⟩ := R_empty_val hF.pk
  clear H5 HB5 HS hF
  go_wp2_with (go_at_call 25; refine (num_any _ _).mono ?_; rintro e w7 ⟨rfl, rfl⟩)
  have HS := ack_any H6.out (kS_ok kS3 rfl rfl (by decide) (by decide) (by decide)) (kS_pl _ (by simp [kS3, kS2, kS0, mA]) (by simp [kS3, kS2, kS0, mB])) 4 1 w HB6.out (by omega)
  rw [k6] at HS
  refine HS.mono ?_
  rintro e w7 ⟨v6, okp6, rfl, hF⟩
  have H7 := Aside0.mk (hF.away' (fun _ h => h.elim) (by omega))
  have HB7 := Aside0.mk hF.bel
  have hz7 := hF.fr.size
  obtain ⟨A6, c6, rfl⟩ := R_empty_val hF.pk
  clear H6 HB6 HS hF
  go_wp2_with fail
  have HS := ack_any H7.out (kS_ok kS3 rfl rfl (by decide) (by decide) (by decide)) (kS_pl _ (by simp [kS3, kS2, kS0, mA]) (by simp [kS3, kS2, kS0, mB])) 5 1 w HB7.out (by omega)
  rw [k7] at HS
  refine HS.mono ?_
  rintro e w8 ⟨v7, okm, rfl, hF⟩
  obtain ⟨hX, hY⟩ := hF.away (fun _ h => h.elim) (by omega)
  have H8 := Aside0.mk (hX.mono (ok' := away w.heap.size okm) (fun k hk => ⟨hk.1, fun e => hk.2 (.inr e)⟩))
  have HN8 := Aside0.mk (show ∀ k, okm k → k < w8.heap.size from fun k hk => hY k (.inr hk))
  have HB8 := Aside0.mk hF.bel
  have hz8 := hF.fr.size
  have HM := Aside0.mk hF.pk
  clear H7 HB7 HS hF hX hY
  go_wp2_with fail
  refine (down_any H8.out).mono ?_
  rintro e w9 ⟨rfl, hw, hf⟩
  have H9 := Aside0.mk (show WinAt' w9 w.heap.size (away w.heap.size okm) B kS5 from hw)
  have HM9 := Aside0.mk (R_fr HM.out hf (fun k hk hn => hn.2 hk))
  have HB9 := Aside0.mk (hf.below HB8.out (fun k hk => hk.1) (by omega))
  have hz9 := hf.size
  have HN9 := Aside0.mk (show ∀ k, okm k → k < w9.heap.size from fun k hk => Nat.lt_of_lt_of_le (HN8.out k hk) hz9)
  clear H8 HM HB8 hw hf HN8
  go_wp2_with fail
  have HS := up_any H9.out (kS_ok kS5 rfl rfl (by decide) (by decide) (by decide)) (kS_pl _ (by simp [kS5, kS4, noMsg]) (by simp [kS5, kS4, kS3, kS2, kS0, mB])) w HB9.out (by omega)
  rw [k9] at HS
  refine HS.mono ?_
  rintro e w10 ⟨v8, okn, rfl, hF⟩
  obtain ⟨hX, hY⟩ := hF.away HN9.out (by omega)
  have H10 := Aside0.mk hX
  have HN10 := Aside0.mk hY
  have HB10 := Aside0.mk hF.bel
  have hz10 := hF.fr.size
  have HM10 := Aside0.mk (R_fr HM9.out hF.fr (fun k hk hn => hn.2 hk))
  have HO10 := Aside0.mk hF.pk
  clear H9 HB9 HS hF hX hY HM9 HN9
  go_wp2_with fail
  have HS := ack_any H10.out (kS_ok kS4 rfl rfl (by decide) (by decide) (by decide)) (kS_pl _ (by simp [kS4, noMsg]) (by simp [kS4, kS3, kS2, kS0, mB])) 7 1 w HB10.out (by omega)
  rw [k10] at HS
  refine HS.mono ?_
  rintro e w11 ⟨v9, oko, rfl, hF⟩
  have H11 := Aside0.mk (hF.away HN10.out (by omega)).1
  have HB11 := Aside0.mk hF.bel
  obtain ⟨gm, cm, rfl, hm⟩ := R_one_val (R_fr HM10.out hF.fr (fun k hk hn => hn.2 (.inl hk)))
  obtain ⟨gn, cn, rfl, hn⟩ := R_one_val (R_fr HO10.out hF.fr (fun k hk hn => hn.2 (.inr hk)))
  obtain ⟨go, co, rfl, ho⟩ := R_one_val hF.pk
  have m0 : w11.cell? ⟨gm, 0, none⟩ = some (.int .i64 6) := hm.kind
  have n0 : w11.cell? ⟨gn, 0, none⟩ = some (.int .i64 6) := hn.kind
  have o2 : w11.cell? ⟨go, 17, none⟩ = some (.string ⟨#[98]⟩) := ho.topic
  have o3 : w11.cell? ⟨go, 21, none⟩ = some (.int .i64 2) := ho.id
  clear H10 HB10 HS hF HM10 HO10 hm hn ho
  go_wp2_with fail
  refine (flying_any H11.out).mono ?_
  rintro e w12 ⟨rfl, rfl⟩
  rw [show ((kS7.flights.length : Nat) : Int) = 1 from rfl]
  go_wp2_with fail
  refine (waiting_any H11.out).mono ?_
  rintro e w12 ⟨rfl, rfl⟩
  rw [show ((kS7.waits.length : Nat) : Int) = 0 from rfl]
  go_wp2_with fail
  go_ret
  exact ⟨rfl, HB11.out⟩
end Go.Proofs.Ytjccmlmkcjmicaa.Win

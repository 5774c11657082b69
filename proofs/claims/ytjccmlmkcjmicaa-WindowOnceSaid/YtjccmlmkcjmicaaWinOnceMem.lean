/- Memory of WindowOnce: the window, the list that was sent (captured), the list that was taken; what each step does to them. No walk. -/
import Derived.Test.YtjccmlmkcjmicaaWinOnceLaw
namespace Go.Proofs.Ytjccmlmkcjmicaa.Win
open Go Go.RowKit Go.Maps Go.MapKept Go.ChangeMaps Go.Proofs.YtjccmlmkcjmicaaW.PrintWords Go.Proofs.Ytjccmlmkcjmicaa.Kinds
set_option linter.unusedVariables false

/-- a message whose payload came in -/
def kTk (w : World) : Kd Msg := Kd.iso (Kd.pair Kd.string (Kd.pair (Kd.fixed kBytes w) (Kd.pair (Kd.int .i64) Kd.bool))) (fun x : Msg => (x.topic, x.payload, x.qos, x.retain))
theorem tk_M_mk {w W : World} {base : Nat} {ok : Nat → Prop} {m : Msg} {A : Option Addr} {c : Nat} (hl : m.payload.length ≤ c) (h : (Kd.int .u8).C w A m.payload.length m.payload) : (kTk w).M W base ok m [.string m.topic, .slice A m.payload.length c, .int .i64 m.qos, .bool m.retain] :=
  ⟨[.string m.topic], _, rfl, rfl, [_], _, rfl, ⟨A, c, rfl, hl, h⟩, [_], [_], rfl, rfl, rfl⟩
theorem tk_K {w W : World} {m : Msg} {cs : List Value} (h : (kTk w).K W m cs) : ∃ A c, cs = [.string m.topic, .slice A m.payload.length c, .int .i64 m.qos, .bool m.retain] ∧ m.payload.length ≤ c ∧ (Kd.int .u8).C w A m.payload.length m.payload := by
  obtain ⟨c0, c1, rfl, h0, c2, c3, rfl, ⟨A, c, rfl, hl, hr⟩, c4, c5, rfl, h4, h5⟩ := h
  have h0' : c0 = [.string m.topic] := h0
  have h4' : c4 = [.int .i64 m.qos] := h4
  have h5' : c5 = [.bool m.retain] := h5
  subst h0' h4' h5'
  exact ⟨A, c, rfl, hl, hr⟩

/-- where the law stands: okw the window's blocks, avs the sent list's, avt the taken list's, Bs the captured variable -/
structure OnceM (w wr : World) (B Bs : Nat) (s : WS) (taken sent : List Msg) (vt vs : Value) (okw avs avt : Nat → Prop) : Prop where
  win : WinAt' wr w.heap.size okw B s
  wlt : ∀ k, okw k → w.heap.size ≤ k ∧ k < wr.heap.size
  slt : ∀ k, avs k → w.heap.size ≤ k ∧ k < wr.heap.size ∧ ¬ okw k
  tlt : ∀ k, avt k → w.heap.size ≤ k ∧ k < wr.heap.size ∧ ¬ okw k ∧ ¬ avs k
  bb : w.heap.size ≤ Bs ∧ ¬ okw Bs ∧ ¬ avs Bs ∧ ¬ avt Bs
  box : wr.heap[Bs]? = some (.cells #[vs] 71 (0, 0))
  sent : kMsg.R 64 wr w.heap.size avs vs sent
  taken : (kTk w).R 64 wr w.heap.size avt vt taken
  bel : Below w.heap.size w wr
theorem _root_.Go.Proofs.Ytjccmlmkcjmicaa.Win.WinAt'.lower2 {w : World} {base base' B : Nat} {ok : Nat → Prop} {s : WS} (h : WinAt' w base ok B s) (hb : base' ≤ base) : WinAt' w base' ok B s := by
  obtain ⟨vf, vw, bm, h⟩ := h
  exact ⟨vf, vw, bm, h.okB, h.okM, Nat.le_trans hb h.baseB, Nat.le_trans hb h.baseM, h.blk, Kd.R_lower h.flights hb, Kd.Q_lower h.waits hb, h.map⟩
variable {w wr X : World} {B Bs : Nat} {s s' : WS} {taken sent : List Msg} {vt vs : Value} {okw avs avt okp : Nat → Prop}
theorem OnceM.below (h : OnceM w wr B Bs s taken sent vt vs okw avs avt) (hb : Below wr.heap.size wr X) : OnceM w X B Bs s taken sent vt vs okw avs avt :=
  ⟨h.win.below hb, fun k hk => ⟨(h.wlt k hk).1, Nat.lt_of_lt_of_le (h.wlt k hk).2 hb.size⟩, fun k hk => ⟨(h.slt k hk).1, Nat.lt_of_lt_of_le (h.slt k hk).2.1 hb.size, (h.slt k hk).2.2⟩,
   fun k hk => ⟨(h.tlt k hk).1, Nat.lt_of_lt_of_le (h.tlt k hk).2.1 hb.size, (h.tlt k hk).2.2⟩, h.bb, (hb.block Bs (blk_lt h.box)).trans h.box, Kd.R_below h.sent hb, Kd.R_below h.taken hb, h.bel.trans (hb.mono h.bel.size)⟩
/-- a call of the window has been made: its packets lie apart -/
structure OnceP (w X : World) (B Bs : Nat) (s : WS) (taken sent : List Msg) (vt vs : Value) (okw avs avt : Nat → Prop) (v : Value) (ps : List Pkt) (okp : Nat → Prop) : Prop where
  mem : OnceM w X B Bs s taken sent vt vs okw avs avt
  pk : kPkt.R 75 X w.heap.size okp v ps
  plt : ∀ k, okp k → w.heap.size ≤ k ∧ k < X.heap.size ∧ ¬ okw k ∧ ¬ avs k ∧ ¬ avt k ∧ k ≠ Bs
theorem OnceM.call {v : Value} {ps : List Pkt} (h : OnceM w wr B Bs s taken sent vt vs okw avs avt) (hF : FillAt wr w.heap.size okw B w v ps okp s' X) : OnceP w X B Bs s' taken sent vt vs (fun k => okN okw wr X k ∧ ¬ okp k) avs avt v ps okp := by
  have hsz := hF.fr.size
  have hBl := blk_lt h.box
  have hnew : ∀ k, okN okw wr X k → w.heap.size ≤ k ∧ k < X.heap.size := fun k hk => by
    rcases hk with h1 | h1
    · exact ⟨(h.wlt k h1).1, Nat.lt_of_lt_of_le (h.wlt k h1).2 hsz⟩
    · exact ⟨Nat.le_trans h.bel.size h1.1, h1.2⟩
  have hno : ∀ k, k < wr.heap.size → ¬ okw k → ¬ okN okw wr X k := fun k hk hn e => by
    rcases e with h1 | h1
    · exact hn h1
    · omega
  refine ⟨⟨hF.win, fun k hk => hnew k hk.1, fun k hk => ?_, fun k hk => ?_, ?_, ?_, ?_, ?_, hF.bel⟩, Kd.R_lower hF.pk h.bel.size, fun k hk => ?_⟩
  · obtain ⟨h1, h2, h3⟩ := h.slt k hk
    exact ⟨h1, Nat.lt_of_lt_of_le h2 hsz, fun e => hno k h2 h3 e.1⟩
  · obtain ⟨h1, h2, h3, h4⟩ := h.tlt k hk
    exact ⟨h1, Nat.lt_of_lt_of_le h2 hsz, fun e => hno k h2 h3 e.1, h4⟩
  · exact ⟨h.bb.1, fun e => hno Bs hBl h.bb.2.1 e.1, h.bb.2.2⟩
  · exact (hF.fr.block Bs hBl h.bb.2.1).trans h.box
  · exact R_fr h.sent hF.fr (fun k hk => (h.slt k hk).2.2)
  · exact R_fr h.taken hF.fr (fun k hk => (h.tlt k hk).2.2.1)
  · obtain ⟨h1, h2⟩ := hF.new k hk
    exact ⟨Nat.le_trans h.bel.size h1, h2, fun e => e.2 hk, fun e => by have := (h.slt k e).2.1; omega, fun e => by have := (h.tlt k e).2.1; omega, fun e => by omega⟩
theorem OnceP.below {v : Value} {ps : List Pkt} (h : OnceP w wr B Bs s taken sent vt vs okw avs avt v ps okp) (hb : Below wr.heap.size wr X) : OnceP w X B Bs s taken sent vt vs okw avs avt v ps okp :=
  ⟨h.mem.below hb, Kd.R_below h.pk hb, fun k hk => ⟨(h.plt k hk).1, Nat.lt_of_lt_of_le (h.plt k hk).2.1 hb.size, (h.plt k hk).2.2⟩⟩
/-- a message is laid behind the taken list -/
theorem OnceP.take {v vt1 : Value} {ps : List Pkt} {taken1 : List Msg} (h : OnceP w wr B Bs s taken sent vt vs okw avs avt v ps okp) (hq : (kTk w).R 64 X w.heap.size (fun k => avt k ∨ wr.heap.size ≤ k) vt1 taken1) (hg : wr.grownBy X vt.ownBlock) (hb : Below w.heap.size w X) :
    OnceP w X B Bs s taken1 sent vt1 vs okw avs (fun k => (avt k ∨ wr.heap.size ≤ k) ∧ k < X.heap.size) v ps okp := by
  have hsz := hg.size
  have hf : Fr avt wr X := (Fr.refl avt wr).grown hg (fun k _ e => h.mem.taken.1 k e)
  have hBl := blk_lt h.mem.box
  refine ⟨⟨h.mem.win.fr hf (fun k hk e => (h.mem.tlt k e).2.2.1 hk), fun k hk => ⟨(h.mem.wlt k hk).1, Nat.lt_of_lt_of_le (h.mem.wlt k hk).2 hsz⟩, fun k hk => ⟨(h.mem.slt k hk).1, Nat.lt_of_lt_of_le (h.mem.slt k hk).2.1 hsz, (h.mem.slt k hk).2.2⟩, fun k hk => ?_, ?_, ?_, ?_, ?_, hb⟩, ?_, fun k hk => ?_⟩
  · rcases hk.1 with h1 | h1
    · exact ⟨(h.mem.tlt k h1).1, hk.2, (h.mem.tlt k h1).2.2⟩
    · exact ⟨Nat.le_trans h.mem.bel.size h1, hk.2, fun e => by have := (h.mem.wlt k e).2; omega, fun e => by have := (h.mem.slt k e).2.1; omega⟩
  · refine ⟨h.mem.bb.1, h.mem.bb.2.1, h.mem.bb.2.2.1, fun e => ?_⟩
    rcases e.1 with h1 | h1
    · exact h.mem.bb.2.2.2 h1
    · omega
  · exact (hf.block Bs hBl h.mem.bb.2.2.2).trans h.mem.box
  · exact R_fr h.mem.sent hf (fun k hk e => (h.mem.tlt k e).2.2.2 hk)
  · exact Kd.R_mono (Kd.R_bound hq) (fun k hk => ⟨hk.1, hk.2.2.1⟩)
  · exact R_fr h.pk hf (fun k hk => (h.plt k hk).2.2.2.2.1)
  · obtain ⟨h1, h2, h3, h4, h5, h6⟩ := h.plt k hk
    refine ⟨h1, Nat.lt_of_lt_of_le h2 hsz, h3, h4, fun e => ?_, h6⟩
    rcases e.1 with h7 | h7
    · exact h5 h7
    · omega
/-- the packets have been heard -/
theorem OnceP.hear {v vs1 : Value} {ps : List Pkt} {sent1 : List Msg} (h : OnceP w wr B Bs s taken sent vt vs okw avs avt v ps okp) (hh : HearAt wr X w.heap.size Bs avs okp vs1 sent1) :
    OnceM w X B Bs s taken sent1 vt vs1 okw (fun k => (avs k ∨ okp k ∨ wr.heap.size ≤ k) ∧ k < X.heap.size) avt := by
  have hsz := hh.fr.size
  refine ⟨h.mem.win.fr hh.fr (fun k hk e => e.elim (fun e => (h.mem.slt k e).2.2 hk) (fun e => h.mem.bb.2.1 (e ▸ hk))), fun k hk => ⟨(h.mem.wlt k hk).1, Nat.lt_of_lt_of_le (h.mem.wlt k hk).2 hsz⟩, fun k hk => ?_, fun k hk => ?_, ?_, hh.box, ?_, ?_, ?_⟩
  · rcases hk.1 with h1 | h1 | h1
    · exact ⟨(h.mem.slt k h1).1, hk.2, (h.mem.slt k h1).2.2⟩
    · exact ⟨(h.plt k h1).1, hk.2, (h.plt k h1).2.2.1⟩
    · exact ⟨Nat.le_trans h.mem.bel.size h1, hk.2, fun e => by have := (h.mem.wlt k e).2; omega⟩
  · obtain ⟨h1, h2, h3, h4⟩ := h.mem.tlt k hk
    refine ⟨h1, Nat.lt_of_lt_of_le h2 hsz, h3, fun e => ?_⟩
    rcases e.1 with h5 | h5 | h5
    · exact h4 h5
    · exact (h.plt k h5).2.2.2.2.1 hk
    · omega
  · refine ⟨h.mem.bb.1, h.mem.bb.2.1, fun e => ?_, h.mem.bb.2.2.2⟩
    have hBl := blk_lt h.mem.box
    rcases e.1 with h5 | h5 | h5
    · exact h.mem.bb.2.2.1 h5
    · exact (h.plt Bs h5).2.2.2.2.2 rfl
    · omega
  · exact Kd.R_mono (Kd.R_bound hh.row) (fun k hk => ⟨hk.1, hk.2.2.1⟩)
  · exact R_fr h.mem.taken hh.fr (fun k hk e => e.elim (fun e => (h.mem.tlt k hk).2.2.2 e) (fun e => h.mem.bb.2.2.2 (e ▸ hk)))
  · exact hh.bel (fun j hj => (h.mem.slt j hj).1) h.mem.bb.1 h.mem.bel.size |> fun hb => h.mem.bel.trans hb
/-- the closure, called on them -/
theorem OnceP.hears {v : Value} {ps : List Pkt} (h : OnceP w wr B Bs s taken sent vt vs okw avs avt v ps okp) (hlen : sent.length + ps.length ≤ 1099511627776) :
    Calls Try.prog 30 #[v, .pointer (some ⟨Bs, 0, none⟩)] wr fun e w' => e = .returned (.tuple #[]) ∧ ∃ (vs1 : Value) (avs1 : Nat → Prop), OnceM w w' B Bs s taken (sent ++ heard ps) vt vs1 okw avs1 avt :=
  (hear_any h.mem.bel.size h.mem.box h.mem.sent h.pk (fun j hj => (h.mem.slt j hj).1) h.mem.bb.1 (fun j hj => (h.plt j hj).2.2.2.1) (fun j hj => (h.plt j hj).2.1) h.mem.bb.2.2.1 (fun e => (h.plt Bs e).2.2.2.2.2 rfl) hlen).mono
    (fun e w' ⟨he, vs1, hh⟩ => ⟨he, vs1, _, h.hear hh⟩)
end Go.Proofs.Ytjccmlmkcjmicaa.Win

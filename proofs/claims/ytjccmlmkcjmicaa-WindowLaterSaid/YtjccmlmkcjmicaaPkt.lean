/- The kind of a packet laid open: its cells. No statement of the program. -/
import Derived.Test.YtjccmlmkcjmicaaKinds
namespace Go.Proofs.Ytjccmlmkcjmicaa.Kinds
open Go Go.RowKit Go.Proofs.YtjccmlmkcjmicaaW.PrintWords
set_option linter.unusedVariables false

def pktCells (p : Pkt) (vw vp vm va vc vf : Value) : List Value :=
  [.int .i64 p.kind, .int .i64 p.level, .bool p.clean, .int .i64 p.keep, .string p.client, .bool p.hasWill, .string p.will.topic, vw, .int .i64 p.will.qos, .bool p.will.retain, .bool p.hasUser, .string p.user, .bool p.hasPass, vp, .bool p.present, .int .i64 p.code, .bool p.dup, .string p.msg.topic, vm, .int .i64 p.msg.qos, .bool p.msg.retain, .int .i64 p.id, va, vc, vf]
theorem pkt_M_mk {w : World} {base : Nat} {ok : Nat → Prop} {p : Pkt} {vw vp vm va vc vf : Value} (hw : (Kd.int .u8).R 5 w base ok vw p.will.payload) (hp : (Kd.int .u8).R 5 w base ok vp p.pass) (hm : (Kd.int .u8).R 5 w base ok vm p.msg.payload)
    (ha : kAsk.R 120 w base ok va p.asks) (hc : (Kd.int .i64).R 3 w base ok vc p.codes) (hf : Kd.string.R 9 w base ok vf p.filters) : kPkt.M w base ok p (pktCells p vw vp vm va vc vf) :=
  ⟨[_], _, rfl, rfl, [_], _, rfl, rfl, [_], _, rfl, rfl, [_], _, rfl, rfl, [_], _, rfl, rfl, [_], _, rfl, rfl, _, _, rfl, msg_M_mk hw, [_], _, rfl, rfl, [_], _, rfl, rfl, [_], _, rfl, rfl, [_], _, rfl, ⟨_, rfl, hp⟩, [_], _, rfl, rfl, [_], _, rfl, rfl, [_], _, rfl, rfl, _, _, rfl, msg_M_mk hm, [_], _, rfl, rfl, [_], _, rfl, ⟨_, rfl, ha⟩, [_], [_], rfl, ⟨_, rfl, hc⟩, ⟨_, rfl, hf⟩⟩
theorem pkt_M {w : World} {base : Nat} {ok : Nat → Prop} {p : Pkt} {cs : List Value} (h : kPkt.M w base ok p cs) : ∃ vw vp vm va vc vf, cs = pktCells p vw vp vm va vc vf ∧ (Kd.int .u8).R 5 w base ok vw p.will.payload ∧ (Kd.int .u8).R 5 w base ok vp p.pass ∧ (Kd.int .u8).R 5 w base ok vm p.msg.payload ∧
    kAsk.R 120 w base ok va p.asks ∧ (Kd.int .i64).R 3 w base ok vc p.codes ∧ Kd.string.R 9 w base ok vf p.filters := by
  obtain ⟨c0, d0, rfl, h0, c1, d1, rfl, h1, c2, d2, rfl, h2, c3, d3, rfl, h3, c4, d4, rfl, h4, c5, d5, rfl, h5, c6, d6, rfl, h6, c7, d7, rfl, h7, c8, d8, rfl, h8, c9, d9, rfl, h9, c10, d10, rfl, h10, c11, d11, rfl, h11, c12, d12, rfl, h12, c13, d13, rfl, h13, c14, d14, rfl, h14, c15, d15, rfl, h15, c16, d16, rfl, h16, c17, d17, rfl, h17, h18⟩ := h
  have e0 : c0 = [.int .i64 p.kind] := h0
  have e1 : c1 = [.int .i64 p.level] := h1
  have e2 : c2 = [.bool p.clean] := h2
  have e3 : c3 = [.int .i64 p.keep] := h3
  have e4 : c4 = [.string p.client] := h4
  have e5 : c5 = [.bool p.hasWill] := h5
  have e7 : c7 = [.bool p.hasUser] := h7
  have e8 : c8 = [.string p.user] := h8
  have e9 : c9 = [.bool p.hasPass] := h9
  have e11 : c11 = [.bool p.present] := h11
  have e12 : c12 = [.int .i64 p.code] := h12
  have e13 : c13 = [.bool p.dup] := h13
  have e15 : c15 = [.int .i64 p.id] := h15
  obtain ⟨vw, rfl, hw⟩ := msg_M h6
  obtain ⟨vp, rfl, hp⟩ := h10
  obtain ⟨vm, rfl, hm⟩ := msg_M h14
  obtain ⟨va, rfl, ha⟩ := h16
  obtain ⟨vc, rfl, hc⟩ := h17
  obtain ⟨vf, rfl, hf⟩ := h18
  subst e0 e1 e2 e3 e4 e5 e7 e8 e9 e11 e12 e13 e15
  exact ⟨vw, vp, vm, va, vc, vf, rfl, hw, hp, hm, ha, hc, hf⟩
theorem pkt_K {w : World} {p : Pkt} {cs : List Value} (h : kPkt.K w p cs) : ∃ Aw nw Ap np Am nm Aa na Ac nc Af nf, cs = pktCells p (.slice Aw p.will.payload.length nw) (.slice Ap p.pass.length np) (.slice Am p.msg.payload.length nm) (.slice Aa p.asks.length na) (.slice Ac p.codes.length nc) (.slice Af p.filters.length nf) ∧
    (p.will.payload.length ≤ nw ∧ (Kd.int .u8).C w Aw p.will.payload.length p.will.payload) ∧ (p.pass.length ≤ np ∧ (Kd.int .u8).C w Ap p.pass.length p.pass) ∧ (p.msg.payload.length ≤ nm ∧ (Kd.int .u8).C w Am p.msg.payload.length p.msg.payload) ∧
    (p.asks.length ≤ na ∧ kAsk.C w Aa p.asks.length p.asks) ∧ (p.codes.length ≤ nc ∧ (Kd.int .i64).C w Ac p.codes.length p.codes) ∧ (p.filters.length ≤ nf ∧ Kd.string.C w Af p.filters.length p.filters) := by
  obtain ⟨c0, d0, rfl, h0, c1, d1, rfl, h1, c2, d2, rfl, h2, c3, d3, rfl, h3, c4, d4, rfl, h4, c5, d5, rfl, h5, c6, d6, rfl, h6, c7, d7, rfl, h7, c8, d8, rfl, h8, c9, d9, rfl, h9, c10, d10, rfl, h10, c11, d11, rfl, h11, c12, d12, rfl, h12, c13, d13, rfl, h13, c14, d14, rfl, h14, c15, d15, rfl, h15, c16, d16, rfl, h16, c17, d17, rfl, h17, h18⟩ := h
  have e0 : c0 = [.int .i64 p.kind] := h0
  have e1 : c1 = [.int .i64 p.level] := h1
  have e2 : c2 = [.bool p.clean] := h2
  have e3 : c3 = [.int .i64 p.keep] := h3
  have e4 : c4 = [.string p.client] := h4
  have e5 : c5 = [.bool p.hasWill] := h5
  have e7 : c7 = [.bool p.hasUser] := h7
  have e8 : c8 = [.string p.user] := h8
  have e9 : c9 = [.bool p.hasPass] := h9
  have e11 : c11 = [.bool p.present] := h11
  have e12 : c12 = [.int .i64 p.code] := h12
  have e13 : c13 = [.bool p.dup] := h13
  have e15 : c15 = [.int .i64 p.id] := h15
  obtain ⟨Aw, nw, rfl, hw⟩ := msg_K h6
  obtain ⟨Ap, np, rfl, hp⟩ := h10
  obtain ⟨Am, nm, rfl, hm⟩ := msg_K h14
  obtain ⟨Aa, na, rfl, ha⟩ := h16
  obtain ⟨Ac, nc, rfl, hc⟩ := h17
  obtain ⟨Af, nf, rfl, hf⟩ := h18
  subst e0 e1 e2 e3 e4 e5 e7 e8 e9 e11 e12 e13 e15
  exact ⟨Aw, nw, Ap, np, Am, nm, Aa, na, Ac, nc, Af, nf, rfl, hw, hp, hm, ha, hc, hf⟩

/-- the packet of something under way -/
def pktOf (f : Flt) (again : Bool) : Pkt := if f.released then { noPkt with kind := 6, id := f.id } else { noPkt with kind := 3, msg := f.msg, id := f.id, dup := again }
end Go.Proofs.Ytjccmlmkcjmicaa.Kinds

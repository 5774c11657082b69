/- Kinds for the values that a window holds (messages, flights, packets), and what a call leaves outside a set of blocks. No statement of the program. -/
import Derived.Test.YtjccmlmkcjmicaaProg
import Derived.Test.YtjccmlmkcjmicaaWWords
import Derived.Lib.Hide
import Derived.Maps.OwnSet
namespace Go.Proofs.Ytjccmlmkcjmicaa.Kinds
open Go Go.RowKit Go.Proofs.YtjccmlmkcjmicaaW.PrintWords
set_option linter.unusedVariables false
set_option linter.unusedSimpArgs false

structure Msg where
  topic : ByteArray
  payload : List Int
  qos : Int
  retain : Bool
structure Flt where
  id : Int
  msg : Msg
  released : Bool
structure AskV where
  filter : ByteArray
  qos : Int
structure Pkt where
  kind : Int
  level : Int
  clean : Bool
  keep : Int
  client : ByteArray
  hasWill : Bool
  will : Msg
  hasUser : Bool
  user : ByteArray
  hasPass : Bool
  pass : List Int
  present : Bool
  code : Int
  dup : Bool
  msg : Msg
  id : Int
  asks : List AskV
  codes : List Int
  filters : List ByteArray
def noMsg : Msg := ⟨⟨#[]⟩, [], 0, false⟩
def noPkt : Pkt := ⟨0, 0, false, 0, ⟨#[]⟩, false, noMsg, false, ⟨#[]⟩, false, [], false, 0, false, noMsg, 0, [], [], []⟩

def kBytes : Kd (List Int) := Kd.slice 5 (Kd.int .u8)
def kMsg : Kd Msg := Kd.iso (Kd.pair Kd.string (Kd.pair kBytes (Kd.pair (Kd.int .i64) Kd.bool))) (fun x : Msg => (x.topic, x.payload, x.qos, x.retain))
def kFlt : Kd Flt := Kd.iso (Kd.pair (Kd.int .i64) (Kd.pair kMsg Kd.bool)) (fun x : Flt => (x.id, x.msg, x.released))
def kAsk : Kd AskV := Kd.iso (Kd.pair Kd.string (Kd.int .i64)) (fun x : AskV => (x.filter, x.qos))
def kPkt : Kd Pkt := Kd.iso (Kd.pair (Kd.int .i64) (Kd.pair (Kd.int .i64) (Kd.pair Kd.bool (Kd.pair (Kd.int .i64) (Kd.pair Kd.string (Kd.pair Kd.bool (Kd.pair kMsg (Kd.pair Kd.bool (Kd.pair Kd.string (Kd.pair Kd.bool (Kd.pair kBytes (Kd.pair Kd.bool (Kd.pair (Kd.int .i64) (Kd.pair Kd.bool (Kd.pair kMsg (Kd.pair (Kd.int .i64) (Kd.pair (Kd.slice 120 kAsk) (Kd.pair (Kd.slice 3 (Kd.int .i64)) (Kd.slice 9 Kd.string)))))))))))))))))))
  (fun x : Pkt => (x.kind, x.level, x.clean, x.keep, x.client, x.hasWill, x.will, x.hasUser, x.user, x.hasPass, x.pass, x.present, x.code, x.dup, x.msg, x.id, x.asks, x.codes, x.filters))

theorem msg_K {w : World} {m : Msg} {cs : List Value} (h : kMsg.K w m cs) : ∃ A c, cs = [.string m.topic, .slice A m.payload.length c, .int .i64 m.qos, .bool m.retain] ∧ m.payload.length ≤ c ∧ (Kd.int .u8).C w A m.payload.length m.payload := by
  obtain ⟨c0, c1, rfl, h0, c2, c3, rfl, ⟨A, c, rfl, hl, hr⟩, c4, c5, rfl, h4, h5⟩ := h
  have h0' : c0 = [.string m.topic] := h0
  have h4' : c4 = [.int .i64 m.qos] := h4
  have h5' : c5 = [.bool m.retain] := h5
  subst h0' h4' h5'
  exact ⟨A, c, rfl, hl, hr⟩
theorem msg_K_mk {w : World} {m : Msg} {A : Option Addr} {c : Nat} (hl : m.payload.length ≤ c) (h : (Kd.int .u8).C w A m.payload.length m.payload) : kMsg.K w m [.string m.topic, .slice A m.payload.length c, .int .i64 m.qos, .bool m.retain] :=
  ⟨[.string m.topic], _, rfl, rfl, [_], _, rfl, ⟨A, c, rfl, hl, h⟩, [_], [_], rfl, rfl, rfl⟩
theorem msg_M {w : World} {base : Nat} {ok : Nat → Prop} {m : Msg} {cs : List Value} (h : kMsg.M w base ok m cs) : ∃ v, cs = [.string m.topic, v, .int .i64 m.qos, .bool m.retain] ∧ (Kd.int .u8).R 5 w base ok v m.payload := by
  obtain ⟨c0, c1, rfl, h0, c2, c3, rfl, ⟨v, rfl, hr⟩, c4, c5, rfl, h4, h5⟩ := h
  have h0' : c0 = [.string m.topic] := h0
  have h4' : c4 = [.int .i64 m.qos] := h4
  have h5' : c5 = [.bool m.retain] := h5
  subst h0' h4' h5'
  exact ⟨v, rfl, hr⟩
theorem msg_M_mk {w : World} {base : Nat} {ok : Nat → Prop} {m : Msg} {v : Value} (h : (Kd.int .u8).R 5 w base ok v m.payload) : kMsg.M w base ok m [.string m.topic, v, .int .i64 m.qos, .bool m.retain] :=
  ⟨[.string m.topic], _, rfl, rfl, [_], _, rfl, ⟨v, rfl, h⟩, [_], [_], rfl, rfl, rfl⟩
theorem flt_M {w : World} {base : Nat} {ok : Nat → Prop} {f : Flt} {cs : List Value} (h : kFlt.M w base ok f cs) : ∃ v, cs = [.int .i64 f.id, .string f.msg.topic, v, .int .i64 f.msg.qos, .bool f.msg.retain, .bool f.released] ∧ (Kd.int .u8).R 5 w base ok v f.msg.payload := by
  obtain ⟨c0, c1, rfl, h0, c2, c3, rfl, h2, h3⟩ := h
  have h0' : c0 = [.int .i64 f.id] := h0
  have h3' : c3 = [.bool f.released] := h3
  obtain ⟨v, rfl, hr⟩ := msg_M h2
  subst h0' h3'
  exact ⟨v, rfl, hr⟩
theorem flt_M_mk {w : World} {base : Nat} {ok : Nat → Prop} {f : Flt} {v : Value} (h : (Kd.int .u8).R 5 w base ok v f.msg.payload) : kFlt.M w base ok f [.int .i64 f.id, .string f.msg.topic, v, .int .i64 f.msg.qos, .bool f.msg.retain, .bool f.released] :=
  ⟨[.int .i64 f.id], _, rfl, rfl, _, [_], rfl, msg_M_mk h, rfl⟩
theorem flt_K {w : World} {f : Flt} {cs : List Value} (h : kFlt.K w f cs) : ∃ A c, cs = [.int .i64 f.id, .string f.msg.topic, .slice A f.msg.payload.length c, .int .i64 f.msg.qos, .bool f.msg.retain, .bool f.released] ∧ f.msg.payload.length ≤ c ∧ (Kd.int .u8).C w A f.msg.payload.length f.msg.payload := by
  obtain ⟨c0, c1, rfl, h0, c2, c3, rfl, h2, h3⟩ := h
  have h0' : c0 = [.int .i64 f.id] := h0
  have h3' : c3 = [.bool f.released] := h3
  obtain ⟨A, c, rfl, hl, hr⟩ := msg_K h2
  subst h0' h3'
  exact ⟨A, c, rfl, hl, hr⟩

/-- outside the blocks of ok (and those that are new) the world is as it was -/
structure Fr (ok : Nat → Prop) (w w' : World) : Prop where
  os : w'.os = w.os
  tape : w'.tape = w.tape
  output : w'.output = w.output
  size : w.heap.size ≤ w'.heap.size
  block : ∀ k, k < w.heap.size → ¬ ok k → w'.heap[k]? = w.heap[k]?
namespace Fr
variable {ok ok' : Nat → Prop} {w w1 w2 : World}
theorem refl (ok : Nat → Prop) (w : World) : Fr ok w w := ⟨rfl, rfl, rfl, Nat.le_refl _, fun _ _ _ => rfl⟩
theorem trans (h : Fr ok w w1) (h' : Fr ok' w1 w2) (hk : ∀ k, k < w.heap.size → ok' k → ok k) : Fr ok w w2 :=
  ⟨h'.os.trans h.os, h'.tape.trans h.tape, h'.output.trans h.output, Nat.le_trans h.size h'.size, fun k hk1 hk2 => (h'.block k (Nat.lt_of_lt_of_le hk1 h.size) (fun e => hk2 (hk k hk1 e))).trans (h.block k hk1 hk2)⟩
theorem mono (h : Fr ok w w1) (hk : ∀ k, k < w.heap.size → ok k → ok' k) : Fr ok' w w1 := ⟨h.os, h.tape, h.output, h.size, fun k hk1 hk2 => h.block k hk1 (fun e => hk2 (hk k hk1 e))⟩
theorem of_below (ok : Nat → Prop) (h : Below w.heap.size w w1) : Fr ok w w1 := ⟨h.os, h.tape, h.output, h.size, fun k hk _ => h.block k hk⟩
theorem below (h : Fr ok w w1) {base : Nat} {w0 : World} (hb : Below base w0 w) (hok : ∀ k, ok k → base ≤ k) (hs : base ≤ w.heap.size) : Below base w0 w1 :=
  hb.trans ⟨h.os, h.tape, h.output, h.size, fun k hk => h.block k (Nat.lt_of_lt_of_le hk hs) (fun e => by have := hok k e; omega)⟩
theorem drew (h : Fr ok w w1) : Fr ok w w1.drew := ⟨h.os, h.tape, h.output, h.size, h.block⟩
theorem drewN (h : Fr ok w w1) (n : Nat) : Fr ok w (w1.drewN n) := ⟨h.os, h.tape, h.output, h.size, h.block⟩
theorem alloc (h : Fr ok w w1) (o : Obj) : Fr ok w (w1.alloc o) := h.trans (of_below (fun _ => False) (below_alloc (Below.refl _ _) o)) (fun _ _ e => e.elim)
theorem setCell (h : Fr ok w w1) {p : Addr} (hp : p.block < w.heap.size → ok p.block) (u : Value) : Fr ok w (w1.setCell p u) :=
  ⟨h.os, h.tape, h.output, by simpa using h.size, fun k hk hn => (Below.heap_setCell w1 p u k (fun e => hn (e ▸ hp (e ▸ hk)))).trans (h.block k hk hn)⟩
theorem grown (h : Fr ok w w1) {row : Option Nat} (hg : w1.grownBy w2 row) (hr : ∀ k, k < w.heap.size → row = some k → ok k) : Fr ok w w2 :=
  ⟨hg.os.trans h.os, hg.tape.trans h.tape, hg.output.trans h.output, Nat.le_trans h.size hg.size, fun k hk hn => (hg.block k (Nat.lt_of_lt_of_le hk h.size) (fun e => hn (hr k hk e.symm))).trans (h.block k hk hn)⟩
theorem turned (h : Fr ok w w1) {b : Nat} (hm : w1.mapTurned w2 b) (hb : b < w.heap.size → ok b) : Fr ok w w2 := h.grown hm.grown (fun k hk e => by injection e with e; subst e; exact hb hk)
end Fr
theorem R_fr {α : Type} {d : Kd α} {e base : Nat} {ok ok' : Nat → Prop} {w w1 : World} {v : Value} {xs : List α} (h : d.R e w base ok v xs) (hf : Fr ok' w w1) (hd : ∀ k, ok k → ¬ ok' k) : d.R e w1 base ok v xs := Kd.R_step h (fun k hk hl => hf.block k hl (hd k hk))
theorem M_fr {α : Type} {d : Kd α} {base : Nat} {ok ok' : Nat → Prop} {w w1 : World} {x : α} {cs : List Value} (h : d.M w base ok x cs) (hf : Fr ok' w w1) (hd : ∀ k, ok k → ¬ ok' k) : d.M w1 base ok x cs := Kd.M_step h (fun k hk hl => hf.block k hl (hd k hk))
theorem Q_fr {α : Type} {d : Kd α} {e base : Nat} {ok ok' : Nat → Prop} {w w1 : World} {v : Value} {xs : List α} (h : d.Q e w base ok v xs) (hf : Fr ok' w w1) (hd : ∀ k, ok k → ¬ ok' k) : d.Q e w1 base ok v xs := Kd.Q_step h (fun k hk hl => hf.block k hl (hd k hk))
theorem C_fr {α : Type} {d : Kd α} {w w1 : World} {A : Option Addr} {n : Nat} {xs : List α} (h : d.C w A n xs) (hb : Below w.heap.size w w1) : d.C w1 A n xs := Kd.C_below h hb
end Go.Proofs.Ytjccmlmkcjmicaa.Kinds

/- Kinds for the values that a window holds (messages, flights, packets), and what a call leaves outside a set of blocks. No statement of the program. wire's Reader, whole: take, number, fail, note, and every method's contract at a reader with or without a fault. No statement of the program. Plain facts on UTF-8: the model decoder against the document own table of code points, byte by byte. No condition. The walk of wire.Check: called with any string it returns what Utf.chk says of its bytes, and memory that was there stays. No condition beyond a string's greatest length. wire's Reader: Text, Rest, End, whole. No statement of the program. The kind of a packet laid open: its cells. No statement of the program. -/
import Derived.Test.YthlbcgaegaoanaaDoorProg
import Derived.Test.YthlbcgaegaoanaaDoorMW
import Derived.Lib.Hide
import Derived.Maps.OwnSet
import Derived.Recover
import Derived.Defers
import Derived.WalkKit
import Derived.Lib.Strings
import Derived.Lib.Slices
import Derived.Laws.Strings3
import Derived.Deep.LoopGhost
namespace Go.Proofs.YthlbcgaegaoanaaDoor.Kinds
open Go Go.RowKit Go.Proofs.YthlbcgaegaoanaaDoorW.PrintWords
set_option linter.unusedVariables false
set_option linter.unusedSimpArgs false
structure Msg where
  topic : ByteArray
  payload : List Int
  qos : Int
  retain : Bool
structure Flt where
  id : Int
  msg : Msg
  released : Bool
structure AskV where
  filter : ByteArray
  qos : Int
structure Pkt where
  kind : Int
  level : Int
  clean : Bool
  keep : Int
  client : ByteArray
  hasWill : Bool
  will : Msg
  hasUser : Bool
  user : ByteArray
  hasPass : Bool
  pass : List Int
  present : Bool
  code : Int
  dup : Bool
  msg : Msg
  id : Int
  asks : List AskV
  codes : List Int
  filters : List ByteArray
def noMsg : Msg := ⟨⟨#[]⟩, [], 0, false⟩
def noPkt : Pkt := ⟨0, 0, false, 0, ⟨#[]⟩, false, noMsg, false, ⟨#[]⟩, false, [], false, 0, false, noMsg, 0, [], [], []⟩
def kBytes : Kd (List Int) := Kd.slice 5 (Kd.int .u8)
def kMsg : Kd Msg := Kd.iso (Kd.pair Kd.string (Kd.pair kBytes (Kd.pair (Kd.int .i64) Kd.bool))) (fun x : Msg => (x.topic, x.payload, x.qos, x.retain))
def kFlt : Kd Flt := Kd.iso (Kd.pair (Kd.int .i64) (Kd.pair kMsg Kd.bool)) (fun x : Flt => (x.id, x.msg, x.released))
def kAsk : Kd AskV := Kd.iso (Kd.pair Kd.string (Kd.int .i64)) (fun x : AskV => (x.filter, x.qos))
def kPkt : Kd Pkt := Kd.iso (Kd.pair (Kd.int .i64) (Kd.pair (Kd.int .i64) (Kd.pair Kd.bool (Kd.pair (Kd.int .i64) (Kd.pair Kd.string (Kd.pair Kd.bool (Kd.pair kMsg (Kd.pair Kd.bool (Kd.pair Kd.string (Kd.pair Kd.bool (Kd.pair kBytes (Kd.pair Kd.bool (Kd.pair (Kd.int .i64) (Kd.pair Kd.bool (Kd.pair kMsg (Kd.pair (Kd.int .i64) (Kd.pair (Kd.slice 66 kAsk) (Kd.pair (Kd.slice 3 (Kd.int .i64)) (Kd.slice 9 Kd.string)))))))))))))))))))
  (fun x : Pkt => (x.kind, x.level, x.clean, x.keep, x.client, x.hasWill, x.will, x.hasUser, x.user, x.hasPass, x.pass, x.present, x.code, x.dup, x.msg, x.id, x.asks, x.codes, x.filters))
theorem msg_K {w : World} {m : Msg} {cs : List Value} (h : kMsg.K w m cs) : ∃ A c, cs = [.string m.topic, .slice A m.payload.length c, .int .i64 m.qos, .bool m.retain] ∧ m.payload.length ≤ c ∧ (Kd.int .u8).C w A m.payload.length m.payload := by
  obtain ⟨c0, c1, rfl, h0, c2, c3, rfl, ⟨A, c, rfl, hl, hr⟩, c4, c5, rfl, h4, h5⟩ := h
  have h0' : c0 = [.string m.topic] := h0
  have h4' : c4 = [.int .i64 m.qos] := h4
  have h5' : c5 = [.bool m.retain] := h5
  subst h0' h4' h5'
  exact ⟨A, c, rfl, hl, hr⟩
theorem msg_K_mk {w : World} {m : Msg} {A : Option Addr} {c : Nat} (hl : m.payload.length ≤ c) (h : (Kd.int .u8).C w A m.payload.length m.payload) : kMsg.K w m [.string m.topic, .slice A m.payload.length c, .int .i64 m.qos, .bool m.retain] :=
  ⟨[.string m.topic], _, rfl, rfl, [_], _, rfl, ⟨A, c, rfl, hl, h⟩, [_], [_], rfl, rfl, rfl⟩
theorem msg_M {w : World} {base : Nat} {ok : Nat → Prop} {m : Msg} {cs : List Value} (h : kMsg.M w base ok m cs) : ∃ v, cs = [.string m.topic, v, .int .i64 m.qos, .bool m.retain] ∧ (Kd.int .u8).R 5 w base ok v m.payload := by
  obtain ⟨c0, c1, rfl, h0, c2, c3, rfl, ⟨v, rfl, hr⟩, c4, c5, rfl, h4, h5⟩ := h
  have h0' : c0 = [.string m.topic] := h0
  have h4' : c4 = [.int .i64 m.qos] := h4
  have h5' : c5 = [.bool m.retain] := h5
  subst h0' h4' h5'
  exact ⟨v, rfl, hr⟩
theorem msg_M_mk {w : World} {base : Nat} {ok : Nat → Prop} {m : Msg} {v : Value} (h : (Kd.int .u8).R 5 w base ok v m.payload) : kMsg.M w base ok m [.string m.topic, v, .int .i64 m.qos, .bool m.retain] :=
  ⟨[.string m.topic], _, rfl, rfl, [_], _, rfl, ⟨v, rfl, h⟩, [_], [_], rfl, rfl, rfl⟩
theorem flt_M {w : World} {base : Nat} {ok : Nat → Prop} {f : Flt} {cs : List Value} (h : kFlt.M w base ok f cs) : ∃ v, cs = [.int .i64 f.id, .string f.msg.topic, v, .int .i64 f.msg.qos, .bool f.msg.retain, .bool f.released] ∧ (Kd.int .u8).R 5 w base ok v f.msg.payload := by
  obtain ⟨c0, c1, rfl, h0, c2, c3, rfl, h2, h3⟩ := h
  have h0' : c0 = [.int .i64 f.id] := h0
  have h3' : c3 = [.bool f.released] := h3
  obtain ⟨v, rfl, hr⟩ := msg_M h2
  subst h0' h3'
  exact ⟨v, rfl, hr⟩
theorem flt_M_mk {w : World} {base : Nat} {ok : Nat → Prop} {f : Flt} {v : Value} (h : (Kd.int .u8).R 5 w base ok v f.msg.payload) : kFlt.M w base ok f [.int .i64 f.id, .string f.msg.topic, v, .int .i64 f.msg.qos, .bool f.msg.retain, .bool f.released] :=
  ⟨[.int .i64 f.id], _, rfl, rfl, _, [_], rfl, msg_M_mk h, rfl⟩
theorem flt_K {w : World} {f : Flt} {cs : List Value} (h : kFlt.K w f cs) : ∃ A c, cs = [.int .i64 f.id, .string f.msg.topic, .slice A f.msg.payload.length c, .int .i64 f.msg.qos, .bool f.msg.retain, .bool f.released] ∧ f.msg.payload.length ≤ c ∧ (Kd.int .u8).C w A f.msg.payload.length f.msg.payload := by
  obtain ⟨c0, c1, rfl, h0, c2, c3, rfl, h2, h3⟩ := h
  have h0' : c0 = [.int .i64 f.id] := h0
  have h3' : c3 = [.bool f.released] := h3
  obtain ⟨A, c, rfl, hl, hr⟩ := msg_K h2
  subst h0' h3'
  exact ⟨A, c, rfl, hl, hr⟩
structure Fr (ok : Nat → Prop) (w w' : World) : Prop where
  os : w'.os = w.os
  tape : w'.tape = w.tape
  output : w'.output = w.output
  size : w.heap.size ≤ w'.heap.size
  block : ∀ k, k < w.heap.size → ¬ ok k → w'.heap[k]? = w.heap[k]?
namespace Fr
variable {ok ok' : Nat → Prop} {w w1 w2 : World}
theorem refl (ok : Nat → Prop) (w : World) : Fr ok w w := ⟨rfl, rfl, rfl, Nat.le_refl _, fun _ _ _ => rfl⟩
theorem trans (h : Fr ok w w1) (h' : Fr ok' w1 w2) (hk : ∀ k, k < w.heap.size → ok' k → ok k) : Fr ok w w2 :=
  ⟨h'.os.trans h.os, h'.tape.trans h.tape, h'.output.trans h.output, Nat.le_trans h.size h'.size, fun k hk1 hk2 => (h'.block k (Nat.lt_of_lt_of_le hk1 h.size) (fun e => hk2 (hk k hk1 e))).trans (h.block k hk1 hk2)⟩
theorem mono (h : Fr ok w w1) (hk : ∀ k, k < w.heap.size → ok k → ok' k) : Fr ok' w w1 := ⟨h.os, h.tape, h.output, h.size, fun k hk1 hk2 => h.block k hk1 (fun e => hk2 (hk k hk1 e))⟩
theorem of_below (ok : Nat → Prop) (h : Below w.heap.size w w1) : Fr ok w w1 := ⟨h.os, h.tape, h.output, h.size, fun k hk _ => h.block k hk⟩
theorem below (h : Fr ok w w1) {base : Nat} {w0 : World} (hb : Below base w0 w) (hok : ∀ k, ok k → base ≤ k) (hs : base ≤ w.heap.size) : Below base w0 w1 :=
  hb.trans ⟨h.os, h.tape, h.output, h.size, fun k hk => h.block k (Nat.lt_of_lt_of_le hk hs) (fun e => by have := hok k e; omega)⟩
theorem drew (h : Fr ok w w1) : Fr ok w w1.drew := ⟨h.os, h.tape, h.output, h.size, h.block⟩
theorem drewN (h : Fr ok w w1) (n : Nat) : Fr ok w (w1.drewN n) := ⟨h.os, h.tape, h.output, h.size, h.block⟩
theorem alloc (h : Fr ok w w1) (o : Obj) : Fr ok w (w1.alloc o) := h.trans (of_below (fun _ => False) (below_alloc (Below.refl _ _) o)) (fun _ _ e => e.elim)
theorem setCell (h : Fr ok w w1) {p : Addr} (hp : p.block < w.heap.size → ok p.block) (u : Value) : Fr ok w (w1.setCell p u) :=
  ⟨h.os, h.tape, h.output, by simpa using h.size, fun k hk hn => (Below.heap_setCell w1 p u k (fun e => hn (e ▸ hp (e ▸ hk)))).trans (h.block k hk hn)⟩
theorem grown (h : Fr ok w w1) {row : Option Nat} (hg : w1.grownBy w2 row) (hr : ∀ k, k < w.heap.size → row = some k → ok k) : Fr ok w w2 :=
  ⟨hg.os.trans h.os, hg.tape.trans h.tape, hg.output.trans h.output, Nat.le_trans h.size hg.size, fun k hk hn => (hg.block k (Nat.lt_of_lt_of_le hk h.size) (fun e => hn (hr k hk e.symm))).trans (h.block k hk hn)⟩
theorem turned (h : Fr ok w w1) {b : Nat} (hm : w1.mapTurned w2 b) (hb : b < w.heap.size → ok b) : Fr ok w w2 := h.grown hm.grown (fun k hk e => by injection e with e; subst e; exact hb hk)
end Fr
theorem R_fr {α : Type} {d : Kd α} {e base : Nat} {ok ok' : Nat → Prop} {w w1 : World} {v : Value} {xs : List α} (h : d.R e w base ok v xs) (hf : Fr ok' w w1) (hd : ∀ k, ok k → ¬ ok' k) : d.R e w1 base ok v xs := Kd.R_step h (fun k hk hl => hf.block k hl (hd k hk))
theorem M_fr {α : Type} {d : Kd α} {base : Nat} {ok ok' : Nat → Prop} {w w1 : World} {x : α} {cs : List Value} (h : d.M w base ok x cs) (hf : Fr ok' w w1) (hd : ∀ k, ok k → ¬ ok' k) : d.M w1 base ok x cs := Kd.M_step h (fun k hk hl => hf.block k hl (hd k hk))
theorem Q_fr {α : Type} {d : Kd α} {e base : Nat} {ok ok' : Nat → Prop} {w w1 : World} {v : Value} {xs : List α} (h : d.Q e w base ok v xs) (hf : Fr ok' w w1) (hd : ∀ k, ok k → ¬ ok' k) : d.Q e w1 base ok v xs := Kd.Q_step h (fun k hk hl => hf.block k hl (hd k hk))
theorem C_fr {α : Type} {d : Kd α} {w w1 : World} {A : Option Addr} {n : Nat} {xs : List α} (h : d.C w A n xs) (hb : Below w.heap.size w w1) : d.C w1 A n xs := Kd.C_below h hb
end Go.Proofs.YthlbcgaegaoanaaDoor.Kinds

namespace Go.Proofs.YthlbcgaegaoanaaDoor.Rdr
open Go Go.RowKit Go.Proofs.YthlbcgaegaoanaaDoorW.PrintWords Go.Proofs.YthlbcgaegaoanaaDoorW.PrintLast Go.Proofs.YthlbcgaegaoanaaDoorW.PrintMore Go.Proofs.YthlbcgaegaoanaaDoor.Kinds
set_option linter.unusedVariables false
set_option linter.unusedSimpArgs false
theorem infoU8 : (Tryd.prog.info? 5).map (fun i => (i.zero, i.size, i.bytes)) = some (some (.int .u8 0), 1, 1) := by kernel_rfl
theorem own_any (l : List Int) (A : Option Addr) (c : Nat) (w : World) (hr : (Kd.int .u8).C w A l.length l) (hl : l.length ≤ 1099511627776) :
    Calls Tryd.prog 28 #[.slice A l.length c] w fun e w' => ∃ v, e = .returned v ∧ (Kd.int .u8).R 5 w' w.heap.size (fun _ => True) v l ∧ Below w.heap.size w w' := by
  have HR := Aside0.mk (Kd.reads_of_C (d := (0 : Int)) hr)
  clear hr
  go_enter Tryd.func28, Tryd.ntmps28
  go_wp2_with (at_builtin; refine print_append_row (w0 := w) w.heap.size rfl (.const (.slice none 0 0)) (.tmp 3) 22 5 .u8 1 rfl Tryd.underlying22 infoU8 (by omega) (.slice none 0 0) [] l A l.length c rfl rfl ?aO ?aR ?aB ?aS ?aL ?_)
  case aO => exact own_nil _ _ _ _
  case aR => exact HR.out
  case aB => exact Below.refl _ _
  case aS => exact Nat.le_refl _
  case aL => simp; omega
  intro v w1 hown hb hg hat
  have HO := Aside0.mk hown
  have HB := Aside0.mk hb
  clear hown hb hg hat
  go_wp2
  go_ret
  exact ⟨v, rfl, Kd.R_of_own HO.out (fun _ _ => trivial), HB.out⟩
def FltAt (w : World) (F : Nat) (p c : Int) : Prop := w.heap[F]? = some (.cells #[.int .i64 p, .int .i64 c] 61 (0, 0))
def FV (w : World) (base : Nat) (ev : Value) : Option (Int × Int) → Prop
  | none => ev = .pointer none
  | some pc => ∃ F, ev = .pointer (some ⟨F, 0, none⟩) ∧ FltAt w F pc.1 pc.2 ∧ base ≤ F
theorem FV.fr {w w1 : World} {base : Nat} {ev : Value} {f : Option (Int × Int)} {ok : Nat → Prop} (h : FV w base ev f) (hf : Fr ok w w1) (hok : ∀ k, k < w.heap.size → ok k → ∃ cells t, w.heap[k]? = some (.cells cells t (0, 0)) ∧ t ≠ 61) : FV w1 base ev f := by
  cases f with
  | none => exact h
  | some pc =>
    obtain ⟨F, rfl, hF, hb⟩ := h
    refine ⟨F, rfl, (hf.block F (blk_lt hF) fun e => ?_).trans hF, hb⟩
    obtain ⟨cells, t, hc, ht⟩ := hok F (blk_lt hF) e
    rw [show w.heap[F]? = _ from hF] at hc
    injection hc with hc
    injection hc with _ hc
    exact ht hc.symm
theorem FV.lower {w : World} {base base' : Nat} {ev : Value} {f : Option (Int × Int)} (h : FV w base ev f) (hb : base' ≤ base) : FV w base' ev f := by
  cases f with
  | none => exact h
  | some pc => obtain ⟨F, e, hF, h1⟩ := h; exact ⟨F, e, hF, Nat.le_trans hb h1⟩
structure RdIs (w : World) (base B : Nat) (l : List Int) (a : Int) (f : Option (Int × Int)) : Prop where
  ex : ∃ v ev, w.heap[B]? = some (.cells #[v, .int .i64 a, ev] 92 (0, 0)) ∧ (Kd.int .u8).R 5 w base (fun _ => True) v l ∧ FV w base ev f
  ge : base ≤ B
  lo : 0 ≤ a
  hi : a ≤ l.length
  len : l.length ≤ 1099511627776
  byte : ∀ x ∈ l, 0 ≤ x ∧ x ≤ 255
theorem RdIs.lt {w : World} {base B : Nat} {l : List Int} {a : Int} {f : Option (Int × Int)} (h : RdIs w base B l a f) : B < w.heap.size := by
  obtain ⟨v, ev, h1, _⟩ := h.ex
  exact blk_lt h1
theorem RdIs.fr {w w1 : World} {base B : Nat} {l : List Int} {a : Int} {f : Option (Int × Int)} {ok : Nat → Prop} (h : RdIs w base B l a f) (hf : Fr ok w w1) (hok : ∀ k, k < w.heap.size → ok k → ∃ cells t, w.heap[k]? = some (.cells cells t (0, 0)) ∧ t ≠ 5 ∧ t ≠ 92 ∧ t ≠ 61) : RdIs w1 base B l a f := by
  obtain ⟨v, ev, h1, h2, h3⟩ := h.ex
  refine ⟨⟨v, ev, (hf.block B (blk_lt h1) fun e => ?_).trans h1, Kd.R_mono (Kd.R_move (Kd.R_bound h2) (fun k hk => hf.block k hk.2.2.1 fun e => ?_)) (fun _ _ => trivial), h3.fr hf (fun k hk e => ?_)⟩, h.ge, h.lo, h.hi, h.len, h.byte⟩
  · obtain ⟨cells, t, hc, _, ht, _⟩ := hok B (blk_lt h1) e
    rw [h1] at hc; injection hc with hc; injection hc with _ hc; exact ht hc.symm
  · obtain ⟨cells, t, hc, ht, _⟩ := hok k hk.2.2.1 e
    obtain ⟨q, hq, cells', hc'⟩ := hk.2.2.2
    rw [hc'] at hc; injection hc with hc; injection hc with _ hc
    have : q = 5 := by simpa [Kd.int, Kd.scalar] using hq
    exact ht (hc.symm.trans this)
  · obtain ⟨cells, t, hc, _, _, ht⟩ := hok k hk e
    exact ⟨cells, t, hc, ht⟩
theorem RdIs.below {w w1 : World} {base B : Nat} {l : List Int} {a : Int} {f : Option (Int × Int)} (h : RdIs w base B l a f) (hb : Below w.heap.size w w1) : RdIs w1 base B l a f :=
  h.fr (Fr.of_below (fun _ => False) hb) (fun _ _ e => e.elim)
theorem RdIs.lower {w : World} {base base' B : Nat} {l : List Int} {a : Int} {f : Option (Int × Int)} (h : RdIs w base B l a f) (hb : base' ≤ base) : RdIs w base' B l a f := by
  obtain ⟨v, ev, h1, h2, h3⟩ := h.ex
  exact ⟨⟨v, ev, h1, Kd.R_lower h2 hb, h3.lower hb⟩, Nat.le_trans hb h.ge, h.lo, h.hi, h.len, h.byte⟩
theorem RdIs.self {w : World} {base B : Nat} {l : List Int} {a : Int} {f : Option (Int × Int)} (h : RdIs w base B l a f) : ∃ cells, w.heap[B]? = some (.cells cells 92 (0, 0)) := by
  obtain ⟨v, ev, h1, _⟩ := h.ex
  exact ⟨_, h1⟩
theorem R_setB {w : World} {base B : Nat} {l : List Int} {v : Value} {cells : Array Value} (hB : w.heap[B]? = some (.cells cells 92 (0, 0))) (h : (Kd.int .u8).R 5 w base (fun _ => True) v l) (j : Nat) (u : Value) : (Kd.int .u8).R 5 (w.setCell ⟨B, j, none⟩ u) base (fun _ => True) v l := Kd.R_set h hB (by decide) j u
theorem FV_setB {w : World} {base B : Nat} {ev : Value} {f : Option (Int × Int)} {cells : Array Value} (hB : w.heap[B]? = some (.cells cells 92 (0, 0))) (h : FV w base ev f) (j : Nat) (u : Value) : FV (w.setCell ⟨B, j, none⟩ u) base ev f :=
  h.fr ((Fr.refl (fun k => k = B) w).setCell (fun _ => rfl) u) (fun k hk e => ⟨cells, 92, e ▸ hB, by decide⟩)
theorem RdIs.setAt {w : World} {base B : Nat} {l : List Int} {a : Int} {f : Option (Int × Int)} (h : RdIs w base B l a f) {b : Int} (h0 : 0 ≤ b) (h1 : b ≤ l.length) : RdIs (w.setCell ⟨B, 1, none⟩ (.int .i64 b)) base B l b f := by
  obtain ⟨v, ev, g1, g2, g3⟩ := h.ex
  exact ⟨⟨v, ev, blk_set g1 1 _, R_setB g1 g2 _ _, FV_setB g1 g3 _ _⟩, h.ge, h0, h1, h.len, h.byte⟩
theorem RdIs.setErr {w : World} {base B : Nat} {l : List Int} {a : Int} {f : Option (Int × Int)} (h : RdIs w base B l a f) {u : Value} {f2 : Option (Int × Int)} (h2 : FV w base u f2) : RdIs (w.setCell ⟨B, 2, none⟩ u) base B l a f2 := by
  obtain ⟨v, ev, g1, g2, g3⟩ := h.ex
  exact ⟨⟨v, u, blk_set g1 2 _, R_setB g1 g2 _ _, FV_setB g1 h2 _ _⟩, h.ge, h.lo, h.hi, h.len, h.byte⟩
theorem RdIs.cells {w : World} {base B : Nat} {l : List Int} {a : Int} {f : Option (Int × Int)} (h : RdIs w base B l a f) :
    ∃ A c ev, l.length ≤ c ∧ w.cell? ⟨B, 0, none⟩ = some (.slice A l.length c) ∧ w.cell? ⟨B, 1, none⟩ = some (.int .i64 a) ∧ w.cell? ⟨B, 2, none⟩ = some ev ∧ FV w base ev f ∧ (∀ j, w.frozen? ⟨B, j, none⟩ = false) ∧ (Kd.int .u8).C w A l.length l := by
  obtain ⟨v, ev, h1, h2, h3⟩ := h.ex
  obtain ⟨A, c, rfl, hc, hC⟩ := Kd.R_reads h2
  exact ⟨A, c, ev, hc, blk_cell h1 0, blk_cell h1 1, blk_cell h1 2, h3, fun j => blk_frozen h1 j, hC⟩
/-! ### New, At, Err -/
theorem read_any (l : List Int) (A : Option Addr) (c : Nat) (w : World) (hr : (Kd.int .u8).C w A l.length l) (hl : l.length ≤ 1099511627776) (hb : ∀ x ∈ l, 0 ≤ x ∧ x ≤ 255) :
    Calls Tryd.prog 19 #[.slice A l.length c] w fun e w' => ∃ B, e = .returned (.pointer (some ⟨B, 0, none⟩)) ∧ RdIs w' w.heap.size B l 0 none ∧ Below w.heap.size w w' := by
  have HR := Aside0.mk hr
  have HBY := Aside0.mk hb
  clear hr hb
  go_enter Tryd.func19, Tryd.ntmps19
  go_wp2_with (go_at_call 28; refine (own_any l A c _ HR.out hl).mono ?_; rintro e w1 ⟨v, rfl, hR, hB⟩; obtain ⟨A1, c1, rfl⟩ := Kd.R_slice hR)
  go_ret
  exact ⟨_, rfl, ⟨⟨_, _, heap_alloc_new _ _, Kd.R_alloc hR _, rfl⟩, hB.size, Int.le_refl _, by omega, hl, HBY.out⟩, hB.alloc hB.size _⟩
theorem at_any {w : World} {base B : Nat} {l : List Int} {a : Int} {f : Option (Int × Int)} (h : RdIs w base B l a f) :
    Calls Tryd.prog 48 #[.pointer (some ⟨B, 0, none⟩)] w fun e w' => e = .returned (.int .i64 a) ∧ w = w' := by
  obtain ⟨A, c, ev, hc, x0, x1, x2, x3, xf, hC⟩ := h.cells
  clear hC h x3
  go_enter Tryd.func48, Tryd.ntmps48
  go_wp2
  go_ret
  exact ⟨rfl, rfl⟩
theorem err_nil {w : World} {base B : Nat} {l : List Int} {a : Int} (h : RdIs w base B l a none) :
    Calls Tryd.prog 21 #[.pointer (some ⟨B, 0, none⟩)] w fun e w' => e = .returned .nilIface ∧ w = w' := by
  obtain ⟨A, c, ev, hc, x0, x1, x2, rfl, xf, hC⟩ := h.cells
  clear hC h
  go_enter Tryd.func21, Tryd.ntmps21
  go_wp2
  go_ret
  exact ⟨rfl, rfl⟩
theorem err_some {w : World} {base B : Nat} {l : List Int} {a : Int} {pc : Int × Int} (h : RdIs w base B l a (some pc)) :
    Calls Tryd.prog 21 #[.pointer (some ⟨B, 0, none⟩)] w fun e w' => e = .returned (.iface 50 (.pointer (some ⟨w.heap.size, 0, none⟩))) ∧ w' = w.alloc (.cells #[.int .i64 pc.1, .int .i64 pc.2] 61) := by
  obtain ⟨A, cc, ev, hc, x0, x1, x2, ⟨F, rfl, hF, hbF⟩, xf, hC⟩ := h.cells
  clear hC h
  have y0 : w.cell? ⟨F, 0, none⟩ = some (.int .i64 pc.1) := blk_cell hF 0
  have y1 : w.cell? ⟨F, 1, none⟩ = some (.int .i64 pc.2) := blk_cell hF 1
  go_enter Tryd.func21, Tryd.ntmps21
  go_wp2
  go_ret
  exact ⟨rfl, rfl⟩
/-! ### fail, note, take, number -/
theorem fail_any (p c : Int) (w : World) :
    Calls Tryd.prog 54 #[.int .i64 p, .int .i64 c] w fun e w' => e = .panicked [{ v := .iface 50 (.pointer (some ⟨w.heap.size, 0, none⟩)), recovered := false }] ∧ w' = w.alloc (.cells #[.int .i64 p, .int .i64 c] 61) := by
  go_enter Tryd.func54, Tryd.ntmps54
  go_wp2
  exact ⟨rfl, rfl, rfl⟩
theorem wp_gen {P : Program} {c : Code} {Q : Exit → Act → World → Prop} {a : Act} {w : World} (h : ∀ K : Exit → Act → World → Prop, (∀ e a' w', Q e a' w' → K e a' w') → c.wp P K a w) : c.wp P Q a w := h Q (fun _ _ _ h => h)
theorem wp_act {P : Program} {c : Code} {Q : Exit → Act → World → Prop} {a a2 : Act} {w : World} (h : a = a2) (h2 : c.wp P Q a2 w) : c.wp P Q a w := h ▸ h2
set_option maxRecDepth 100000 in
theorem note_idle {w : World} (B : Nat) (a : Int) :
    CallsD Tryd.prog 50 #[.pointer (some ⟨B, 0, none⟩), .int .i64 a] .returning w fun e u' w' => e = .returned (.tuple #[]) ∧ u' = .returning ∧ w' = w := by
  refine callsD_of_wpS Tryd.func50 rfl fun c₀ cs hu => ?_
  apply wpS_seq
  apply wpS_region
  simp [wpOpsS, go_sem, recoverD, hu, Tryd.ntmps50, Exit.thenS]
  have hq : ∀ w : World, (binOp .eql 20 .nilIface .nilIface).run Tryd.prog w = .ok (.bool true) w := fun _ => by rfl
  refine wpS_of_wp (wp_gen fun K hK => ?_)
  refine wp_act (a2 := { tmps := #[.pointer (some ⟨B, 0, none⟩), .int .i64 a, undef, undef, undef, undef, undef, .nilIface, undef, undef, undef, undef, undef, undef, undef, undef, undef, undef, undef, undef, undef], defers := [] }) (by kernel_rfl) ?_
  go_wp2
  cases c₀
  simp_all [bodyPostS, results, Tryd.results50]
set_option maxRecDepth 100000 in
theorem note_catch {w : World} (B : Nat) (a a0 : Int) (v0 e0 : Value) (F : Nat) (hB : w.heap[B]? = some (.cells #[v0, .int .i64 a0, e0] 92 (0, 0))) :
    CallsD Tryd.prog 50 #[.pointer (some ⟨B, 0, none⟩), .int .i64 a] (.panicking [{ v := .iface 50 (.pointer (some ⟨F, 0, none⟩)), recovered := false }]) w fun e u' w' => e = .returned (.tuple #[]) ∧ u' = .panicking [{ v := .iface 50 (.pointer (some ⟨F, 0, none⟩)), recovered := true }] ∧ w' = (w.setCell ⟨B, 1, none⟩ (.int .i64 a)).setCell ⟨B, 2, none⟩ (.pointer (some ⟨F, 0, none⟩)) := by
  have x1 : w.cell? ⟨B, 1, none⟩ = some (.int .i64 a0) := blk_cell hB 1
  have x2 : w.cell? ⟨B, 2, none⟩ = some e0 := blk_cell hB 2
  have f1 : w.frozen? ⟨B, 1, none⟩ = false := blk_frozen hB 1
  have f2 : w.frozen? ⟨B, 2, none⟩ = false := blk_frozen hB 2
  clear hB
  refine callsD_of_wpS Tryd.func50 rfl fun c₀ cs hu => ?_
  apply wpS_seq
  apply wpS_region
  simp [wpOpsS, go_sem, recoverD, hu, Tryd.ntmps50, Exit.thenS]
  have hta : ∀ w : World, (Instr.typeAssert (.iface 50 (.pointer (some ⟨F, 0, none⟩))) 20 50 true).run Tryd.prog w = .ok (.tuple #[.pointer (some ⟨F, 0, none⟩), .bool true]) w := fun _ => by kernel_rfl
  have hq : ∀ w : World, (binOp .eql 20 (.iface 50 (.pointer (some ⟨F, 0, none⟩))) .nilIface).run Tryd.prog w = .ok (.bool false) w := fun _ => by rfl
  refine wpS_of_wp (wp_gen fun K hK => ?_)
  refine wp_act (a2 := { tmps := #[.pointer (some ⟨B, 0, none⟩), .int .i64 a, undef, undef, undef, undef, undef, .iface 50 (.pointer (some ⟨F, 0, none⟩)), undef, undef, undef, undef, undef, undef, undef, undef, undef, undef, undef, undef, undef], defers := [] }) (by kernel_rfl) ?_
  go_wp2
  cases c₀
  simp_all [bodyPostS, results, Tryd.results50]
set_option maxRecDepth 100000 in
theorem take_ok {w : World} {base B : Nat} {l : List Int} {a n : Int} {f : Option (Int × Int)} (h : RdIs w base B l a f) (hn : 0 ≤ n) (hl : a + n ≤ l.length) (ys : List Int) (hys : ys = (l.drop a.toNat).take n.toNat) :
    Calls Tryd.prog 51 #[.pointer (some ⟨B, 0, none⟩), .int .i64 n] w fun e w' => ∃ A' c', e = .returned (.slice A' ys.length c') ∧ ys.length ≤ c' ∧ (Kd.int .u8).C w' A' ys.length ys ∧ RdIs w' base B l (a + n) f ∧ Fr (fun k => k = B) w w' := by
  have ha := h.lo
  have hlm := h.len
  obtain ⟨A, cc, ev, hc, x0, x1, x2, x3, xf, hC⟩ := h.cells
  have hs := h.setAt (b := a + n) (by omega) hl
  obtain ⟨A2, cc2, ev2, hc2, y0, y1, y2, y3, yf, hC2⟩ := hs.cells
  have hset := hs
  have q0 : (w.setCell ⟨B, 1, none⟩ (.int .i64 (a + n))).cell? ⟨B, 0, none⟩ = some (.slice A l.length cc) :=
    (World.cell?_setCell_other _ _ _ _ (by simp)).trans x0
  obtain ⟨rfl, rfl⟩ : A = A2 ∧ cc = cc2 := by
    rw [q0] at y0; injection y0 with y0; injection y0 with e1 e2 e3; exact ⟨e1, e3⟩
  clear x2 y2 hC x3 y3
  have e1 : wrap64 ((l.length : Int) - a) = l.length - a := by unfold wrap64; omega
  have e2 : wrap64 (a + n) = a + n := by unfold wrap64; omega
  have e3 : wrap64 (a + n - n) = a := by unfold wrap64; omega
  have t1 : decide ((l.length : Int) - a < n) = false := decide_eq_false (by omega)
  have t2 : decide (n > (l.length : Int) - a) = false := decide_eq_false (by omega)
  have HC2 := Aside0.mk hC2
  have HS := Aside0.mk hset
  have HH := Aside0.mk h
  have HY := Aside0.mk hys
  clear hC2 hset h hs hys
  go_enter Tryd.func51, Tryd.ntmps51
  go_upto_region 1 with fail
  refine start_ (n := 12) (S := fun w' => w'.cell? ⟨B, 0, none⟩ = some (.slice A l.length cc) ∧ w'.cell? ⟨B, 1, none⟩ = some (.int .i64 a)) (ds := []) #[false, false, false, false, false, false, false, false, false, false, false, false] (by kernel_rfl) rfl rfl ⟨x0, x1⟩ (fun hHeld => ?_)
  refine pure_ (i := 0) (N := some 5) (v := ?_) (a' := ?_) #[true, false, false, false, false, false, false, false, false, false, false, false] rfl rfl (by kernel_rfl) (fun _ _ _ h => h) (Or.inl ⟨by rfl, ?_⟩) ?_ ?_
  rotate_left
  · intro w'
    go_simp
    with_reducible rfl
  rotate_left
  · simp only [Act.put, List.setIfInBounds_toArray, List.set_cons_zero, List.set_cons_succ, i64_w, i32_w]
    rfl
  refine pure_ (i := 1) (N := some 6) (v := ?_) (a' := ?_) #[true, true, false, false, false, false, false, false, false, false, false, false] rfl rfl (by kernel_rfl) (fun _ _ _ h => h) (Or.inl ⟨by rfl, ?_⟩) ?_ ?_
  rotate_left
  · intro w'
    go_simp
    with_reducible rfl
  rotate_left
  · simp only [Act.put, List.setIfInBounds_toArray, List.set_cons_zero, List.set_cons_succ, i64_w, i32_w]
    rfl
  refine pure_ (i := 2) (N := some 7) (v := ?_) (a' := ?_) #[true, true, true, false, false, false, false, false, false, false, false, false] rfl rfl (by kernel_rfl) (fun _ _ _ h => h) (Or.inl ⟨by rfl, ?_⟩) ?_ ?_
  rotate_left
  · intro w'
    go_simp
    with_reducible rfl
  rotate_left
  · simp only [Act.put, List.setIfInBounds_toArray, List.set_cons_zero, List.set_cons_succ, i64_w, i32_w]
    rfl
  refine pure_ (i := 3) (N := some 8) (v := ?_) (a' := ?_) #[true, true, true, true, false, false, false, false, false, false, false, false] rfl rfl (by kernel_rfl) (fun _ _ _ h => h) (Or.inl ⟨by rfl, ?_⟩) ?_ ?_
  rotate_left
  · intro w'
    go_simp
    with_reducible rfl
  rotate_left
  · simp only [Act.put, List.setIfInBounds_toArray, List.set_cons_zero, List.set_cons_succ, i64_w, i32_w]
    rfl
  refine pure_ (i := 6) (N := some 11) (v := ?_) (a' := ?_) #[true, true, true, true, false, false, true, false, false, false, false, false] rfl rfl (by kernel_rfl) (fun _ _ _ h => h) (Or.inl ⟨by rfl, ?_⟩) ?_ ?_
  rotate_left
  · intro w'
    go_simp
    with_reducible rfl
  rotate_left
  · simp only [Act.put, List.setIfInBounds_toArray, List.set_cons_zero, List.set_cons_succ, i64_w, i32_w]
    rfl
  refine pure_ (i := 7) (N := some 12) (v := ?_) (a' := ?_) #[true, true, true, true, false, false, true, true, false, false, false, false] rfl rfl (by kernel_rfl) (fun _ _ _ h => h) (Or.inl ⟨by rfl, ?_⟩) ?_ ?_
  rotate_left
  · intro w'
    go_simp
    with_reducible rfl
  rotate_left
  · simp only [Act.put, List.setIfInBounds_toArray, List.set_cons_zero, List.set_cons_succ, i64_w, i32_w]
    rfl
  refine pure_ (i := 8) (N := some 13) (v := ?_) (a' := ?_) #[true, true, true, true, false, false, true, true, true, false, false, false] rfl rfl (by kernel_rfl) (fun _ _ _ h => h) (Or.inl ⟨by rfl, ?_⟩) ?_ ?_
  rotate_left
  · intro w'
    go_simp
    with_reducible rfl
  rotate_left
  · simp only [Act.put, List.setIfInBounds_toArray, List.set_cons_zero, List.set_cons_succ, i64_w, i32_w]
    rfl
  refine take_ (i := 4) (N := some 9) (v := ?_) (a' := ?_) #[true, true, true, true, true, false, true, true, true, false, false, false] rfl rfl (by kernel_rfl) (fun _ _ _ h => h) (Or.inl ⟨by rfl, ?_⟩) hHeld ?_ ?_
  rotate_left
  · rintro w' ⟨s0, s1⟩
    go_simp
    with_reducible rfl
  rotate_left
  · simp only [Act.put, List.setIfInBounds_toArray, List.set_cons_zero, List.set_cons_succ, i64_w, i32_w]
    rfl
  refine pure_ (i := 5) (N := some 10) (v := ?_) (a' := ?_) #[true, true, true, true, true, true, true, true, true, false, false, false] rfl rfl (by kernel_rfl) (fun _ _ _ h => h) (Or.inl ⟨by rfl, ?_⟩) ?_ ?_
  rotate_left
  · intro w'
    go_simp
    with_reducible rfl
  rotate_left
  · simp only [Act.put, List.setIfInBounds_toArray, List.set_cons_zero, List.set_cons_succ, i64_w, i32_w]
    rfl
  refine take_ (i := 9) (N := some 14) (v := ?_) (a' := ?_) #[true, true, true, true, true, true, true, true, true, true, false, false] rfl rfl (by kernel_rfl) (fun _ _ _ h => h) (Or.inl ⟨by rfl, ?_⟩) hHeld ?_ ?_
  rotate_left
  · rintro w' ⟨s0, s1⟩
    go_simp
    with_reducible rfl
  rotate_left
  · simp only [Act.put, List.setIfInBounds_toArray, List.set_cons_zero, List.set_cons_succ, i64_w, i32_w]
    rfl
  refine pure_ (i := 10) (N := some 15) (v := ?_) (a' := ?_) #[true, true, true, true, true, true, true, true, true, true, true, false] rfl rfl (by kernel_rfl) (fun _ _ _ h => h) (Or.inl ⟨by rfl, ?_⟩) ?_ ?_
  rotate_left
  · intro w'
    go_simp
    with_reducible rfl
  rotate_left
  · simp only [Act.put, List.setIfInBounds_toArray, List.set_cons_zero, List.set_cons_succ, i64_w, i32_w]
    rfl
  refine pure_ (i := 11) (N := some 16) (v := ?_) (a' := ?_) #[true, true, true, true, true, true, true, true, true, true, true, true] rfl rfl (by kernel_rfl) (fun _ _ _ h => h) (Or.inl ⟨by rfl, ?_⟩) ?_ ?_
  rotate_left
  · intro w'
    go_simp
    with_reducible rfl
  rotate_left
  · simp only [Act.put, List.setIfInBounds_toArray, List.set_cons_zero, List.set_cons_succ, i64_w, i32_w]
    rfl
  refine done_ (by kernel_rfl) ?_
  go_upto_region 4 with fail
  have c0 : wrap64 a = a := by unfold wrap64; omega
  have c1 : 0 ≤ a ∧ a ≤ max (a + n) 0 := ⟨ha, by omega⟩
  have c2 : a + n ≤ (cc : Int) := by omega
  have c3 : 0 ≤ a + n := by omega
  refine start_ (n := 16) (S := fun w' => w'.cell? ⟨B, 0, none⟩ = some (.slice A l.length cc) ∧ w'.cell? ⟨B, 1, none⟩ = some (.int .i64 (a + n))) (ds := []) #[false, false, false, false, false, false, false, false, false, false, false, false, false, false, false, false] (by kernel_rfl) rfl rfl ⟨y0, y1⟩ (fun hHeld => ?_)
  refine pure_ (i := 0) (N := some 31) (v := ?_) (a' := ?_) #[true, false, false, false, false, false, false, false, false, false, false, false, false, false, false, false] rfl rfl (by kernel_rfl) (fun _ _ _ h => h) (Or.inl ⟨by rfl, ?_⟩) ?_ ?_
  rotate_left
  · intro w'
    go_simp
    with_reducible rfl
  rotate_left
  · simp only [Act.put, List.setIfInBounds_toArray, List.set_cons_zero, List.set_cons_succ, i64_w, i32_w]
    rfl
  refine pure_ (i := 1) (N := some 32) (v := ?_) (a' := ?_) #[true, true, false, false, false, false, false, false, false, false, false, false, false, false, false, false] rfl rfl (by kernel_rfl) (fun _ _ _ h => h) (Or.inl ⟨by rfl, ?_⟩) ?_ ?_
  rotate_left
  · intro w'
    go_simp
    with_reducible rfl
  rotate_left
  · simp only [Act.put, List.setIfInBounds_toArray, List.set_cons_zero, List.set_cons_succ, i64_w, i32_w]
    rfl
  refine pure_ (i := 2) (N := some 33) (v := ?_) (a' := ?_) #[true, true, true, false, false, false, false, false, false, false, false, false, false, false, false, false] rfl rfl (by kernel_rfl) (fun _ _ _ h => h) (Or.inl ⟨by rfl, ?_⟩) ?_ ?_
  rotate_left
  · intro w'
    go_simp
    with_reducible rfl
  rotate_left
  · simp only [Act.put, List.setIfInBounds_toArray, List.set_cons_zero, List.set_cons_succ, i64_w, i32_w]
    rfl
  refine pure_ (i := 4) (N := some 35) (v := ?_) (a' := ?_) #[true, true, true, false, true, false, false, false, false, false, false, false, false, false, false, false] rfl rfl (by kernel_rfl) (fun _ _ _ h => h) (Or.inl ⟨by rfl, ?_⟩) ?_ ?_
  rotate_left
  · intro w'
    go_simp
    with_reducible rfl
  rotate_left
  · simp only [Act.put, List.setIfInBounds_toArray, List.set_cons_zero, List.set_cons_succ, i64_w, i32_w]
    rfl
  refine pure_ (i := 5) (N := some 36) (v := ?_) (a' := ?_) #[true, true, true, false, true, true, false, false, false, false, false, false, false, false, false, false] rfl rfl (by kernel_rfl) (fun _ _ _ h => h) (Or.inl ⟨by rfl, ?_⟩) ?_ ?_
  rotate_left
  · intro w'
    go_simp
    with_reducible rfl
  rotate_left
  · simp only [Act.put, List.setIfInBounds_toArray, List.set_cons_zero, List.set_cons_succ, i64_w, i32_w]
    rfl
  refine pure_ (i := 6) (N := some 37) (v := ?_) (a' := ?_) #[true, true, true, false, true, true, true, false, false, false, false, false, false, false, false, false] rfl rfl (by kernel_rfl) (fun _ _ _ h => h) (Or.inl ⟨by rfl, ?_⟩) ?_ ?_
  rotate_left
  · intro w'
    go_simp
    with_reducible rfl
  rotate_left
  · simp only [Act.put, List.setIfInBounds_toArray, List.set_cons_zero, List.set_cons_succ, i64_w, i32_w]
    rfl
  refine pure_ (i := 8) (N := some 39) (v := ?_) (a' := ?_) #[true, true, true, false, true, true, true, false, true, false, false, false, false, false, false, false] rfl rfl (by kernel_rfl) (fun _ _ _ h => h) (Or.inl ⟨by rfl, ?_⟩) ?_ ?_
  rotate_left
  · intro w'
    go_simp
    with_reducible rfl
  rotate_left
  · simp only [Act.put, List.setIfInBounds_toArray, List.set_cons_zero, List.set_cons_succ, i64_w, i32_w]
    rfl
  refine pure_ (i := 10) (N := some 41) (v := ?_) (a' := ?_) #[true, true, true, false, true, true, true, false, true, false, true, false, false, false, false, false] rfl rfl (by kernel_rfl) (fun _ _ _ h => h) (Or.inl ⟨by rfl, ?_⟩) ?_ ?_
  rotate_left
  · intro w'
    go_simp
    with_reducible rfl
  rotate_left
  · simp only [Act.put, List.setIfInBounds_toArray, List.set_cons_zero, List.set_cons_succ, i64_w, i32_w]
    rfl
  refine pure_ (i := 11) (N := some 42) (v := ?_) (a' := ?_) #[true, true, true, false, true, true, true, false, true, false, true, true, false, false, false, false] rfl rfl (by kernel_rfl) (fun _ _ _ h => h) (Or.inl ⟨by rfl, ?_⟩) ?_ ?_
  rotate_left
  · intro w'
    go_simp
    with_reducible rfl
  rotate_left
  · simp only [Act.put, List.setIfInBounds_toArray, List.set_cons_zero, List.set_cons_succ, i64_w, i32_w]
    rfl
  refine pure_ (i := 12) (N := some 43) (v := ?_) (a' := ?_) #[true, true, true, false, true, true, true, false, true, false, true, true, true, false, false, false] rfl rfl (by kernel_rfl) (fun _ _ _ h => h) (Or.inl ⟨by rfl, ?_⟩) ?_ ?_
  rotate_left
  · intro w'
    go_simp
    with_reducible rfl
  rotate_left
  · simp only [Act.put, List.setIfInBounds_toArray, List.set_cons_zero, List.set_cons_succ, i64_w, i32_w]
    rfl
  refine take_ (i := 3) (N := some 34) (v := ?_) (a' := ?_) #[true, true, true, true, true, true, true, false, true, false, true, true, true, false, false, false] rfl rfl (by kernel_rfl) (fun _ _ _ h => h) (Or.inl ⟨by rfl, ?_⟩) hHeld ?_ ?_
  rotate_left
  · rintro w' ⟨s0, s1⟩
    go_simp
    with_reducible rfl
  rotate_left
  · simp only [Act.put, List.setIfInBounds_toArray, List.set_cons_zero, List.set_cons_succ, i64_w, i32_w]
    rfl
  refine take_ (i := 7) (N := some 38) (v := ?_) (a' := ?_) #[true, true, true, true, true, true, true, true, true, false, true, true, true, false, false, false] rfl rfl (by kernel_rfl) (fun _ _ _ h => h) (Or.inl ⟨by rfl, ?_⟩) hHeld ?_ ?_
  rotate_left
  · rintro w' ⟨s0, s1⟩
    go_simp
    with_reducible rfl
  rotate_left
  · simp only [Act.put, List.setIfInBounds_toArray, List.set_cons_zero, List.set_cons_succ, i64_w, i32_w]
    rfl
  refine pure_ (i := 9) (N := some 40) (v := ?_) (a' := ?_) #[true, true, true, true, true, true, true, true, true, true, true, true, true, false, false, false] rfl rfl (by kernel_rfl) (fun _ _ _ h => h) (Or.inl ⟨by rfl, ?_⟩) ?_ ?_
  rotate_left
  · intro w'
    go_simp
    with_reducible rfl
  rotate_left
  · simp only [Act.put, List.setIfInBounds_toArray, List.set_cons_zero, List.set_cons_succ, i64_w, i32_w]
    rfl
  refine take_ (i := 13) (N := some 44) (v := ?_) (a' := ?_) #[true, true, true, true, true, true, true, true, true, true, true, true, true, true, false, false] rfl rfl (by kernel_rfl) (fun _ _ _ h => h) (Or.inl ⟨by rfl, ?_⟩) hHeld ?_ ?_
  rotate_left
  · rintro w' ⟨s0, s1⟩
    go_simp
    with_reducible rfl
  rotate_left
  · simp only [Act.put, List.setIfInBounds_toArray, List.set_cons_zero, List.set_cons_succ, i64_w, i32_w]
    rfl
  refine pure_ (i := 14) (N := some 45) (v := ?_) (a' := ?_) #[true, true, true, true, true, true, true, true, true, true, true, true, true, true, true, false] rfl rfl (by kernel_rfl) (fun _ _ _ h => h) (Or.inl ⟨by rfl, ?_⟩) ?_ ?_
  rotate_left
  · intro w'
    go_simp
    with_reducible rfl
  rotate_left
  · simp only [Act.put, List.setIfInBounds_toArray, List.set_cons_zero, List.set_cons_succ, i64_w, i32_w]
    rfl
  refine pure_ (i := 15) (N := some 4) (v := ?_) (a' := ?_) #[true, true, true, true, true, true, true, true, true, true, true, true, true, true, true, true] rfl rfl (by kernel_rfl) (fun _ _ _ h => h) (Or.inl ⟨by rfl, ?_⟩) ?_ ?_
  rotate_left
  · intro w'
    go_simp
    with_reducible rfl
  rotate_left
  · simp only [Act.put, List.setIfInBounds_toArray, List.set_cons_zero, List.set_cons_succ, i64_w, i32_w]
    rfl
  refine done_ (by kernel_rfl) ?_
  generalize hA' : (if cc = a.toNat then A else Option.map (fun x => x.add a.toNat) A) = A'
  generalize hn' : (a + n).toNat - a.toNat = n'
  have HA := Aside0.mk hA'
  have HN := Aside0.mk hn'
  clear hA' hn'
  go_wp2
  have hlen : ((l.drop a.toNat).take n.toNat).length = n' := by rw [← HN.out, List.length_take, List.length_drop]; omega
  have hlist : (l.take (a + n).toNat).drop a.toNat = (l.drop a.toNat).take n.toNat := by rw [List.drop_take]; congr 1; omega
  have hlen : ys.length = n' := by rw [HY.out]; exact hlen
  have hmid := Kd.C_mid (lo := a.toNat) (hi := (a + n).toNat) HC2.out (by omega) (by omega) hc
  rw [hlist, ← HY.out] at hmid
  go_ret
  refine ⟨A', cc - a.toNat, by rw [hlen]; rfl, by rw [hlen, ← HN.out]; omega, ?_, ?_, ?_⟩
  · have e : (a.toNat * (Kd.int .u8).sz) = a.toNat := Nat.mul_one _
    rw [e, HA.out] at hmid
    exact Kd.C_drew (Kd.C_drew hmid)
  · exact RdIs.below HS.out (below_drew1 (below_drew1 (Below.refl _ _)))
  · exact ((Fr.refl (fun k => k = B) w).setCell (fun _ => rfl) _).drew.drew
set_option maxRecDepth 100000 in
theorem take_short {w : World} {base B : Nat} {l : List Int} {a n : Int} {f : Option (Int × Int)} (h : RdIs w base B l a f) (hl : (l.length : Int) - a < n) :
    Calls Tryd.prog 51 #[.pointer (some ⟨B, 0, none⟩), .int .i64 n] w fun e w' => ∃ F, e = .panicked [{ v := .iface 50 (.pointer (some ⟨F, 0, none⟩)), recovered := false }] ∧ FltAt w' F l.length 10 ∧ w.heap.size ≤ F ∧ Below w.heap.size w w' := by
  have ha := h.lo
  have hlm := h.len
  have hhi := h.hi
  obtain ⟨A, cc, ev, hc, x0, x1, x2, x3, xf, hC⟩ := h.cells
  clear x2 x3 hC
  have e1 : wrap64 ((l.length : Int) - a) = l.length - a := by unfold wrap64; omega
  have t1 : decide ((l.length : Int) - a < n) = true := decide_eq_true hl
  have t2 : decide (n > (l.length : Int) - a) = true := decide_eq_true (by omega)
  clear h
  go_enter Tryd.func51, Tryd.ntmps51
  go_upto_region 1 with fail
  refine start_ (n := 12) (S := fun w' => w'.cell? ⟨B, 0, none⟩ = some (.slice A l.length cc) ∧ w'.cell? ⟨B, 1, none⟩ = some (.int .i64 a)) (ds := []) #[false, false, false, false, false, false, false, false, false, false, false, false] (by kernel_rfl) rfl rfl ⟨x0, x1⟩ (fun hHeld => ?_)
  refine pure_ (i := 0) (N := some 5) (v := ?_) (a' := ?_) #[true, false, false, false, false, false, false, false, false, false, false, false] rfl rfl (by kernel_rfl) (fun _ _ _ h => h) (Or.inl ⟨by rfl, ?_⟩) ?_ ?_
  rotate_left
  · intro w'
    go_simp
    with_reducible rfl
  rotate_left
  · simp only [Act.put, List.setIfInBounds_toArray, List.set_cons_zero, List.set_cons_succ, i64_w, i32_w]
    rfl
  refine pure_ (i := 1) (N := some 6) (v := ?_) (a' := ?_) #[true, true, false, false, false, false, false, false, false, false, false, false] rfl rfl (by kernel_rfl) (fun _ _ _ h => h) (Or.inl ⟨by rfl, ?_⟩) ?_ ?_
  rotate_left
  · intro w'
    go_simp
    with_reducible rfl
  rotate_left
  · simp only [Act.put, List.setIfInBounds_toArray, List.set_cons_zero, List.set_cons_succ, i64_w, i32_w]
    rfl
  refine pure_ (i := 2) (N := some 7) (v := ?_) (a' := ?_) #[true, true, true, false, false, false, false, false, false, false, false, false] rfl rfl (by kernel_rfl) (fun _ _ _ h => h) (Or.inl ⟨by rfl, ?_⟩) ?_ ?_
  rotate_left
  · intro w'
    go_simp
    with_reducible rfl
  rotate_left
  · simp only [Act.put, List.setIfInBounds_toArray, List.set_cons_zero, List.set_cons_succ, i64_w, i32_w]
    rfl
  refine pure_ (i := 3) (N := some 8) (v := ?_) (a' := ?_) #[true, true, true, true, false, false, false, false, false, false, false, false] rfl rfl (by kernel_rfl) (fun _ _ _ h => h) (Or.inl ⟨by rfl, ?_⟩) ?_ ?_
  rotate_left
  · intro w'
    go_simp
    with_reducible rfl
  rotate_left
  · simp only [Act.put, List.setIfInBounds_toArray, List.set_cons_zero, List.set_cons_succ, i64_w, i32_w]
    rfl
  refine pure_ (i := 6) (N := some 11) (v := ?_) (a' := ?_) #[true, true, true, true, false, false, true, false, false, false, false, false] rfl rfl (by kernel_rfl) (fun _ _ _ h => h) (Or.inl ⟨by rfl, ?_⟩) ?_ ?_
  rotate_left
  · intro w'
    go_simp
    with_reducible rfl
  rotate_left
  · simp only [Act.put, List.setIfInBounds_toArray, List.set_cons_zero, List.set_cons_succ, i64_w, i32_w]
    rfl
  refine pure_ (i := 7) (N := some 12) (v := ?_) (a' := ?_) #[true, true, true, true, false, false, true, true, false, false, false, false] rfl rfl (by kernel_rfl) (fun _ _ _ h => h) (Or.inl ⟨by rfl, ?_⟩) ?_ ?_
  rotate_left
  · intro w'
    go_simp
    with_reducible rfl
  rotate_left
  · simp only [Act.put, List.setIfInBounds_toArray, List.set_cons_zero, List.set_cons_succ, i64_w, i32_w]
    rfl
  refine pure_ (i := 8) (N := some 13) (v := ?_) (a' := ?_) #[true, true, true, true, false, false, true, true, true, false, false, false] rfl rfl (by kernel_rfl) (fun _ _ _ h => h) (Or.inl ⟨by rfl, ?_⟩) ?_ ?_
  rotate_left
  · intro w'
    go_simp
    with_reducible rfl
  rotate_left
  · simp only [Act.put, List.setIfInBounds_toArray, List.set_cons_zero, List.set_cons_succ, i64_w, i32_w]
    rfl
  refine take_ (i := 4) (N := some 9) (v := ?_) (a' := ?_) #[true, true, true, true, true, false, true, true, true, false, false, false] rfl rfl (by kernel_rfl) (fun _ _ _ h => h) (Or.inl ⟨by rfl, ?_⟩) hHeld ?_ ?_
  rotate_left
  · rintro w' ⟨s0, s1⟩
    go_simp
    with_reducible rfl
  rotate_left
  · simp only [Act.put, List.setIfInBounds_toArray, List.set_cons_zero, List.set_cons_succ, i64_w, i32_w]
    rfl
  refine pure_ (i := 5) (N := some 10) (v := ?_) (a' := ?_) #[true, true, true, true, true, true, true, true, true, false, false, false] rfl rfl (by kernel_rfl) (fun _ _ _ h => h) (Or.inl ⟨by rfl, ?_⟩) ?_ ?_
  rotate_left
  · intro w'
    go_simp
    with_reducible rfl
  rotate_left
  · simp only [Act.put, List.setIfInBounds_toArray, List.set_cons_zero, List.set_cons_succ, i64_w, i32_w]
    rfl
  refine take_ (i := 9) (N := some 14) (v := ?_) (a' := ?_) #[true, true, true, true, true, true, true, true, true, true, false, false] rfl rfl (by kernel_rfl) (fun _ _ _ h => h) (Or.inl ⟨by rfl, ?_⟩) hHeld ?_ ?_
  rotate_left
  · rintro w' ⟨s0, s1⟩
    go_simp
    with_reducible rfl
  rotate_left
  · simp only [Act.put, List.setIfInBounds_toArray, List.set_cons_zero, List.set_cons_succ, i64_w, i32_w]
    rfl
  refine pure_ (i := 10) (N := some 15) (v := ?_) (a' := ?_) #[true, true, true, true, true, true, true, true, true, true, true, false] rfl rfl (by kernel_rfl) (fun _ _ _ h => h) (Or.inl ⟨by rfl, ?_⟩) ?_ ?_
  rotate_left
  · intro w'
    go_simp
    with_reducible rfl
  rotate_left
  · simp only [Act.put, List.setIfInBounds_toArray, List.set_cons_zero, List.set_cons_succ, i64_w, i32_w]
    rfl
  refine pure_ (i := 11) (N := some 16) (v := ?_) (a' := ?_) #[true, true, true, true, true, true, true, true, true, true, true, true] rfl rfl (by kernel_rfl) (fun _ _ _ h => h) (Or.inl ⟨by rfl, ?_⟩) ?_ ?_
  rotate_left
  · intro w'
    go_simp
    with_reducible rfl
  rotate_left
  · simp only [Act.put, List.setIfInBounds_toArray, List.set_cons_zero, List.set_cons_succ, i64_w, i32_w]
    rfl
  refine done_ (by kernel_rfl) ?_
  go_wp2_with (go_at_call 54; refine (fail_any _ _ _).mono ?_; rintro e w1 ⟨rfl, rfl⟩)
  exact ⟨rfl, _, rfl, heap_alloc_new _ _, Nat.le_refl _, ((below_drew1 (Below.refl _ _)).alloc (Nat.le_refl _) _)⟩
def joinG (xs : List Int) : Int := xs.foldl (fun x c => Go.bits .or .i64 (wrap64 (x * 256)) (wrap64 c)) 0
theorem joinG_succ (ys : List Int) (k : Nat) (hk : k < ys.length) : joinG (ys.take (k + 1)) = Go.bits .or .i64 (wrap64 (joinG (ys.take k) * 256)) (wrap64 (rd ys (k : Int))) := by
  have e : rd ys (k : Int) = ys[k] := by unfold rd; simp [List.getD_eq_getElem?_getD, List.getElem?_eq_getElem hk]
  rw [← List.take_append_getElem hk, e]
  unfold joinG
  rw [List.foldl_append]
  rfl
set_option maxRecDepth 100000 in
set_option maxHeartbeats 1000000 in
theorem number_ok {w : World} {base B : Nat} {l : List Int} {a n : Int} {f : Option (Int × Int)} (h : RdIs w base B l a f) (hn : 0 ≤ n) (hl : a + n ≤ l.length) (ys : List Int) (hys : ys = (l.drop a.toNat).take n.toNat) :
    Calls Tryd.prog 52 #[.pointer (some ⟨B, 0, none⟩), .int .i64 n] w fun e w' => e = .returned (.int .i64 (joinG ys)) ∧ RdIs w' base B l (a + n) f ∧ Fr (fun k => k = B) w w' := by
  have HH := Aside0.mk h
  have HY := Aside0.mk hys
  have HL := Aside0.mk hl
  clear h hys hl
  go_enter Tryd.func52, Tryd.ntmps52
  go_wp2_with (go_at_call 51; refine (take_ok HH.out hn HL.out ys HY.out).mono ?_; rintro e w2 ⟨A', c', rfl, hc', hC, hR, hF⟩; have HF := Aside0.mk hF; clear hF; have HC := Aside0.mk hC; have HR := Aside0.mk hR; clear hC hR)
  go_loopg [5, 12] ys.length (fun q x i wr => ∃ k : Nat, k + q = ys.length ∧ x = .int .i64 (joinG (ys.take k)) ∧ i = .int .i64 (k : Int) ∧ w2 = wr)
  case atStart => exact ⟨0, by omega, rfl, rfl, rfl⟩
  case round =>
    obtain ⟨k, hk, rfl, rfl, rfl⟩ := hrel
    have HK := Aside0.mk hk
    clear hk
    by_cases hlt : k < ys.length
    · have b0 : decide ((k : Int) < (ys.length : Int)) = true := decide_eq_true (by omega)
      have p0 : 0 ≤ (k : Int) := by omega
      have q0 : (k : Int) < (ys.length : Int) := by omega
      obtain ⟨ad, rfl, hx⟩ := Kd.at_int HC.out (k : Int) p0 q0
      simp only [Int.toNat_natCast] at hx
      obtain ⟨q1, rfl⟩ : ∃ q1, gk = q1 + 1 := ⟨gk - 1, by have := HK.out; omega⟩
      have ew : wrap64 ((k : Int) + 1) = ((k + 1 : Nat) : Int) := by have := Kd.C_max HC.out; unfold wrap64; omega
      have ej := Aside0.mk (joinG_succ ys k hlt)
      go_wp2
      go_roundg q1
      case measure => exact Nat.lt_succ_self _
      case rel => exact ⟨k + 1, by have := HK.out; omega, by rw [ej.out], by simp [ew], rfl⟩
    · have b0 : decide ((k : Int) < (ys.length : Int)) = false := decide_eq_false (by omega)
      go_wp2
      go_ret
      have ek : k = ys.length := by have := HK.out; omega
      exact ⟨by rw [ek, List.take_length]; rfl, HR.out, HF.out⟩
set_option maxRecDepth 100000 in
theorem number_short {w : World} {base B : Nat} {l : List Int} {a n : Int} {f : Option (Int × Int)} (h : RdIs w base B l a f) (hl : (l.length : Int) - a < n) :
    Calls Tryd.prog 52 #[.pointer (some ⟨B, 0, none⟩), .int .i64 n] w fun e w' => ∃ F, e = .panicked [{ v := .iface 50 (.pointer (some ⟨F, 0, none⟩)), recovered := false }] ∧ FltAt w' F l.length 10 ∧ w.heap.size ≤ F ∧ Below w.heap.size w w' := by
  have HH := Aside0.mk h
  clear h
  go_enter Tryd.func52, Tryd.ntmps52
  go_wp2_with (go_at_call 51; refine (take_short HH.out hl).mono ?_; rintro e w2 ⟨F, rfl, hF, hFs, hB⟩)
  exact ⟨rfl, F, rfl, hF, hFs, hB⟩
/-! ### the methods: a fault stays; what gives up has taken nothing -/
structure Rd (α : Type) where
  v : α
  a : Int
  f : Option (Int × Int)
def rByte (l : List Int) (a : Int) (f : Option (Int × Int)) : Rd Int :=
  if f.isSome then ⟨0, a, f⟩ else if a + 1 ≤ l.length then ⟨rd l a, a + 1, none⟩ else ⟨0, a, some (l.length, 10)⟩
def rNum (l : List Int) (a : Int) (f : Option (Int × Int)) : Rd Int :=
  if f.isSome then ⟨0, a, f⟩ else if a + 2 ≤ l.length then ⟨joinG ((l.drop a.toNat).take 2), a + 2, none⟩ else ⟨0, a, some (l.length, 10)⟩
def rData (l : List Int) (a : Int) (f : Option (Int × Int)) : Rd (List Int) :=
  if f.isSome then ⟨[], a, f⟩ else if a + 2 ≤ l.length then
    if a + 2 + joinG ((l.drop a.toNat).take 2) ≤ l.length then ⟨(l.drop (a + 2).toNat).take (joinG ((l.drop a.toNat).take 2)).toNat, a + 2 + joinG ((l.drop a.toNat).take 2), none⟩ else ⟨[], a, some (l.length, 10)⟩
  else ⟨[], a, some (l.length, 10)⟩
def rRest (l : List Int) (a : Int) (f : Option (Int × Int)) : Rd (List Int) :=
  if f.isSome then ⟨[], a, f⟩ else ⟨l.drop a.toNat, l.length, none⟩
def rEnd (l : List Int) (a : Int) (f : Option (Int × Int)) : Option (Int × Int) :=
  if f.isSome then f else if a < l.length then some (a, 15) else none
theorem Fr.setB {w w1 : World} {B : Nat} (h : Fr (fun k => k = B) w w1) (j : Nat) (u : Value) : Fr (fun k => k = B) w (w1.setCell ⟨B, j, none⟩ u) := h.setCell (fun _ => rfl) u
theorem gave_up {w w1 w2 : World} {base B F : Nat} {l : List Int} {a b p c : Int} (h : RdIs w base B l a none) (h1 : RdIs w1 base B l b none) (hF1 : Fr (fun k => k = B) w w1) (hb : Below w1.heap.size w1 w2) (hF : FltAt w2 F p c) (hFs : w1.heap.size ≤ F) :
    RdIs ((w2.setCell ⟨B, 1, none⟩ (.int .i64 a)).setCell ⟨B, 2, none⟩ (.pointer (some ⟨F, 0, none⟩))) base B l a (some (p, c)) ∧ Fr (fun k => k = B) w ((w2.setCell ⟨B, 1, none⟩ (.int .i64 a)).setCell ⟨B, 2, none⟩ (.pointer (some ⟨F, 0, none⟩))) := by
  have h2 := (h1.below hb).setAt h.lo h.hi
  have hlt := h1.lt
  refine ⟨h2.setErr ⟨F, rfl, ?_, by have := h1.ge; omega⟩, ?_⟩
  · exact (Below.heap_setCell _ _ _ _ (by simp; omega)).trans hF
  · exact Fr.setB (Fr.setB (hF1.trans (Fr.of_below (fun _ => False) hb) (fun _ _ e => e.elim)) 1 _) 2 _
theorem add_zero_cell {w : World} {ad : Addr} {x : Int} (h : w.cell? (ad.add ((0 : Int).toNat)) = some (.int .u8 (rd [x] 0))) : w.cell? ad = some (.int .u8 x) := by
  have e : ad.add ((0 : Int).toNat) = ad := by unfold Addr.add; split <;> simp_all
  rw [e] at h; exact h
theorem byte_err {w : World} {base B : Nat} {l : List Int} {a : Int} {pc : Int × Int} (h : RdIs w base B l a (some pc)) :
    Calls Tryd.prog 30 #[.pointer (some ⟨B, 0, none⟩)] w fun e w' => e = .returned (.int .u8 0) ∧ w = w' := by
  obtain ⟨A, cc, ev, hc, x0, x1, x2, ⟨F, rfl, hF, hbF⟩, xf, hC⟩ := h.cells
  clear hC h hF
  go_enter_defers Tryd.func30, Tryd.ntmps30
  go_wp2
  exact ⟨_, results_tmp rfl _ _ _, rfl, rfl⟩
theorem byte_short {w : World} {base B : Nat} {l : List Int} {a : Int} (h : RdIs w base B l a none) (hl : ¬ a + 1 ≤ l.length) :
    Calls Tryd.prog 30 #[.pointer (some ⟨B, 0, none⟩)] w fun e w' => e = .returned (.int .u8 0) ∧ RdIs w' base B l a (some (l.length, 10)) ∧ Fr (fun k => k = B) w w' := by
  have HH := Aside0.mk h
  obtain ⟨A, cc, ev, hc, x0, x1, x2, rfl, xf, hC⟩ := h.cells
  clear hC h
  go_enter_defers Tryd.func30, Tryd.ntmps30
  go_wp2_with (go_at_call 51; refine (take_short HH.out (by omega)).mono ?_; rintro e w2 ⟨F, rfl, hF, hFs, hB⟩)
  obtain ⟨v, ev, g1, _⟩ := (HH.out.below hB).ex
  refine leaves_cons (f := 50) (args := #[.pointer (some ⟨B, 0, none⟩), .int .i64 a]) (by simp) (by simp [go_sem]) ?_
  refine (note_catch B a _ _ _ F g1).mono ?_
  rintro e u' w5 ⟨rfl, rfl, rfl⟩
  have hg := gave_up HH.out HH.out (Fr.refl _ _) hB hF hFs
  exact ⟨_, results_tmp rfl _ _ _, rfl, hg.1, hg.2⟩
theorem byte_ok {w : World} {base B : Nat} {l : List Int} {a : Int} (h : RdIs w base B l a none) (hl : a + 1 ≤ l.length) :
    Calls Tryd.prog 30 #[.pointer (some ⟨B, 0, none⟩)] w fun e w' => e = .returned (.int .u8 (rd l a)) ∧ RdIs w' base B l (a + 1) none ∧ Fr (fun k => k = B) w w' := by
  have HH := Aside0.mk h
  have hlo := h.lo
  obtain ⟨A, cc, ev, hc, x0, x1, x2, rfl, xf, hC⟩ := h.cells
  clear hC h
  have HY := Aside0.mk (show [rd l a] = (l.drop a.toNat).take (1 : Int).toNat by
    unfold rd
    rw [List.drop_eq_getElem_cons (show a.toNat < l.length by omega), show (1 : Int).toNat = 1 from rfl, List.take_succ_cons, List.take_zero, List.getD_eq_getElem?_getD, List.getElem?_eq_getElem (show a.toNat < l.length by omega)]
    rfl)
  generalize rd l a = x at *
  go_enter_defers Tryd.func30, Tryd.ntmps30
  go_wp2_with (go_at_call 51; refine (take_ok HH.out (by decide) hl [x] HY.out).mono ?_; rintro e w2 ⟨A', c', rfl, hc', hC, hR, hF⟩; obtain ⟨ad, rfl, hx⟩ := Kd.at_int hC 0 (by decide) (by simp); have hx2 : w2.cell? ad = some (.int .u8 x) := add_zero_cell hx; have HR := Aside0.mk hR; have HF := Aside0.mk hF; clear hC hR hF hx)
  refine leaves_cons (f := 50) (args := #[.pointer (some ⟨B, 0, none⟩), .int .i64 a]) (by simp) (by simp [go_sem]) ?_
  refine (note_idle B a).mono ?_
  rintro e u' w5 ⟨rfl, rfl, rfl⟩
  exact ⟨_, results_tmp rfl _ _ _, rfl, HR.out, HF.out⟩
theorem byte_any {w : World} {base B : Nat} {l : List Int} {a : Int} {f : Option (Int × Int)} (h : RdIs w base B l a f) :
    Calls Tryd.prog 30 #[.pointer (some ⟨B, 0, none⟩)] w fun e w' => e = .returned (.int .u8 (rByte l a f).v) ∧ RdIs w' base B l (rByte l a f).a (rByte l a f).f ∧ Fr (fun k => k = B) w w' := by
  unfold rByte
  cases f with
  | some pc => exact (byte_err h).mono fun e w' ⟨h1, h2⟩ => by subst h2; exact ⟨h1, h, Fr.refl _ _⟩
  | none =>
    rw [if_neg (by simp)]
    by_cases hl : a + 1 ≤ l.length
    · rw [if_pos hl]; exact byte_ok h hl
    · rw [if_neg hl]; exact byte_short h hl
theorem num_err {w : World} {base B : Nat} {l : List Int} {a : Int} {pc : Int × Int} (h : RdIs w base B l a (some pc)) :
    Calls Tryd.prog 34 #[.pointer (some ⟨B, 0, none⟩)] w fun e w' => e = .returned (.int .i64 0) ∧ w = w' := by
  obtain ⟨A, cc, ev, hc, x0, x1, x2, ⟨F, rfl, hF, hbF⟩, xf, hC⟩ := h.cells
  clear hC h hF
  go_enter_defers Tryd.func34, Tryd.ntmps34
  go_wp2
  exact ⟨_, results_tmp rfl _ _ _, rfl, rfl⟩
theorem num_short {w : World} {base B : Nat} {l : List Int} {a : Int} (h : RdIs w base B l a none) (hl : ¬ a + 2 ≤ l.length) :
    Calls Tryd.prog 34 #[.pointer (some ⟨B, 0, none⟩)] w fun e w' => e = .returned (.int .i64 0) ∧ RdIs w' base B l a (some (l.length, 10)) ∧ Fr (fun k => k = B) w w' := by
  have HH := Aside0.mk h
  obtain ⟨A, cc, ev, hc, x0, x1, x2, rfl, xf, hC⟩ := h.cells
  clear hC h
  go_enter_defers Tryd.func34, Tryd.ntmps34
  go_wp2_with (go_at_call 52; refine (number_short HH.out (by omega)).mono ?_; rintro e w2 ⟨F, rfl, hF, hFs, hB⟩)
  obtain ⟨v, ev, g1, _⟩ := (HH.out.below hB).ex
  refine leaves_cons (f := 50) (args := #[.pointer (some ⟨B, 0, none⟩), .int .i64 a]) (by simp) (by simp [go_sem]) ?_
  refine (note_catch B a _ _ _ F g1).mono ?_
  rintro e u' w5 ⟨rfl, rfl, rfl⟩
  have hg := gave_up HH.out HH.out (Fr.refl _ _) hB hF hFs
  exact ⟨_, results_tmp rfl _ _ _, rfl, hg.1, hg.2⟩
theorem num_ok {w : World} {base B : Nat} {l : List Int} {a : Int} (h : RdIs w base B l a none) (hl : a + 2 ≤ l.length) :
    Calls Tryd.prog 34 #[.pointer (some ⟨B, 0, none⟩)] w fun e w' => e = .returned (.int .i64 (joinG ((l.drop a.toNat).take 2))) ∧ RdIs w' base B l (a + 2) none ∧ Fr (fun k => k = B) w w' := by
  have HH := Aside0.mk h
  obtain ⟨A, cc, ev, hc, x0, x1, x2, rfl, xf, hC⟩ := h.cells
  clear hC h
  obtain ⟨ys, hys⟩ : ∃ ys, ys = (l.drop a.toNat).take 2 := ⟨_, rfl⟩
  have HY := Aside0.mk hys
  rw [← hys]
  clear hys
  go_enter_defers Tryd.func34, Tryd.ntmps34
  go_wp2_with (go_at_call 52; refine (number_ok HH.out (by decide) hl ys HY.out).mono ?_; rintro e w2 ⟨rfl, hR, hF⟩; have HR := Aside0.mk hR; have HF := Aside0.mk hF; clear hR hF)
  refine leaves_cons (f := 50) (args := #[.pointer (some ⟨B, 0, none⟩), .int .i64 a]) (by simp) (by simp [go_sem]) ?_
  refine (note_idle B a).mono ?_
  rintro e u' w5 ⟨rfl, rfl, rfl⟩
  exact ⟨_, results_tmp rfl _ _ _, rfl, HR.out, HF.out⟩
theorem num_any {w : World} {base B : Nat} {l : List Int} {a : Int} {f : Option (Int × Int)} (h : RdIs w base B l a f) :
    Calls Tryd.prog 34 #[.pointer (some ⟨B, 0, none⟩)] w fun e w' => e = .returned (.int .i64 (rNum l a f).v) ∧ RdIs w' base B l (rNum l a f).a (rNum l a f).f ∧ Fr (fun k => k = B) w w' := by
  unfold rNum
  cases f with
  | some pc => exact (num_err h).mono fun e w' ⟨h1, h2⟩ => by subst h2; exact ⟨h1, h, Fr.refl _ _⟩
  | none =>
    rw [if_neg (by simp)]
    by_cases hl : a + 2 ≤ l.length
    · rw [if_pos hl]; exact num_ok h hl
    · rw [if_neg hl]; exact num_short h hl
/-! ### plain: two bytes joined -/
theorem or_comm (k : IntKind) (a b : Int) : bits .or k a b = bits .or k b a := by simp only [bits, BitVec.or_comm]
theorem wraps_i64 (n : Int) (h₀ : 0 ≤ n) (h₁ : n < 2 ^ 62) : IntKind.i64.wrap n = n := by rw [IntKind.wrap_i64]; omega
theorem or_shift (i : Nat) (hi : i ≤ 50) (n x : Int) (hn0 : 0 ≤ n) (hn : n < 2 ^ i) (hx0 : 0 ≤ x) (hx : x * 2 ^ i < 2 ^ 62) : bits .or .i64 n (x * 2 ^ i) = n + x * 2 ^ i := by
  have hp : (0 : Int) < 2 ^ i := Int.pow_pos (by omega)
  have hple : (2 : Int) ^ i ≤ 2 ^ 62 := by exact_mod_cast Nat.pow_le_pow_right (by decide) (by omega)
  rw [or_comm, bits_join .i64 62 (by decide) wraps_i64 i (x * 2 ^ i) n (Int.mul_nonneg hx0 (by omega)) (by simp) hx hn0 hn (by omega)]
  omega
theorem join_step (x c : Int) (hx0 : 0 ≤ x) (hx : x < 2 ^ 40) (hc0 : 0 ≤ c) (hc : c < 256) : Go.bits .or .i64 (wrap64 (x * 256)) (wrap64 c) = x * 256 + c := by
  have e1 : wrap64 (x * 256) = x * 2 ^ 8 := by unfold wrap64; omega
  have e2 : wrap64 c = c := by unfold wrap64; omega
  rw [e1, e2, or_comm, or_shift 8 (by omega) c x hc0 (by omega) hx0 (by omega)]
  omega
theorem join2 (a b : Int) (ha0 : 0 ≤ a) (ha : a < 256) (hb0 : 0 ≤ b) (hb : b < 256) : joinG [a, b] = a * 256 + b := by
  unfold joinG
  simp only [List.foldl]
  rw [join_step 0 a (by omega) (by omega) ha0 ha, join_step _ b (by omega) (by omega) hb0 hb]
  omega
theorem rd_range (xs : List Int) (hw : ∀ x ∈ xs, 0 ≤ x ∧ x ≤ 255) (i : Int) : 0 ≤ rd xs i ∧ rd xs i ≤ 255 := by
  unfold rd
  rw [List.getD_eq_getElem?_getD]
  rcases Nat.lt_or_ge i.toNat xs.length with h | h
  · rw [List.getElem?_eq_getElem h]; exact hw _ (List.getElem_mem h)
  · rw [List.getElem?_eq_none h]; simp
theorem two_eq (l : List Int) (a : Int) (h0 : 0 ≤ a) (hl : a + 2 ≤ l.length) : (l.drop a.toNat).take 2 = [rd l a, rd l (a + 1)] := by
  unfold rd
  rw [List.drop_eq_getElem_cons (show a.toNat < l.length by omega), List.drop_eq_getElem_cons (show a.toNat + 1 < l.length by omega)]
  rw [List.take_succ_cons, List.take_succ_cons, List.take_zero, List.getD_eq_getElem?_getD, List.getElem?_eq_getElem (show a.toNat < l.length by omega), List.getD_eq_getElem?_getD, show (a + 1).toNat = a.toNat + 1 by omega, List.getElem?_eq_getElem (show a.toNat + 1 < l.length by omega)]
  rfl
theorem two_join (l : List Int) (a : Int) (hw : ∀ x ∈ l, 0 ≤ x ∧ x ≤ 255) (h0 : 0 ≤ a) (hl : a + 2 ≤ l.length) : joinG ((l.drop a.toNat).take 2) = rd l a * 256 + rd l (a + 1) := by
  have h1 := rd_range l hw a
  have h2 := rd_range l hw (a + 1)
  rw [two_eq l a h0 hl, join2 _ _ h1.1 (by omega) h2.1 (by omega)]
theorem two_range (l : List Int) (a : Int) (hw : ∀ x ∈ l, 0 ≤ x ∧ x ≤ 255) (h0 : 0 ≤ a) (hl : a + 2 ≤ l.length) : 0 ≤ joinG ((l.drop a.toNat).take 2) ∧ joinG ((l.drop a.toNat).take 2) ≤ 65535 := by
  rw [two_join l a hw h0 hl]
  have h1 := rd_range l hw a
  have h2 := rd_range l hw (a + 1)
  omega
theorem data_err {w : World} {base B : Nat} {l : List Int} {a : Int} {pc : Int × Int} (h : RdIs w base B l a (some pc)) :
    Calls Tryd.prog 49 #[.pointer (some ⟨B, 0, none⟩)] w fun e w' => e = .returned (.slice none 0 0) ∧ w = w' := by
  obtain ⟨A, cc, ev, hc, x0, x1, x2, ⟨F, rfl, hF, hbF⟩, xf, hC⟩ := h.cells
  clear hC h hF
  go_enter_defers Tryd.func49, Tryd.ntmps49
  go_wp2
  exact ⟨_, results_tmp rfl _ _ _, rfl, rfl⟩
theorem data_short {w : World} {base B : Nat} {l : List Int} {a : Int} (h : RdIs w base B l a none) (hl : ¬ a + 2 ≤ l.length) :
    Calls Tryd.prog 49 #[.pointer (some ⟨B, 0, none⟩)] w fun e w' => e = .returned (.slice none 0 0) ∧ RdIs w' base B l a (some (l.length, 10)) ∧ Fr (fun k => k = B) w w' := by
  have HH := Aside0.mk h
  obtain ⟨A, cc, ev, hc, x0, x1, x2, rfl, xf, hC⟩ := h.cells
  clear hC h
  go_enter_defers Tryd.func49, Tryd.ntmps49
  go_wp2_with (go_at_call 52; refine (number_short HH.out (by omega)).mono ?_; rintro e w2 ⟨F, rfl, hF, hFs, hB⟩)
  obtain ⟨v, ev, g1, _⟩ := (HH.out.below hB).ex
  refine leaves_cons (f := 50) (args := #[.pointer (some ⟨B, 0, none⟩), .int .i64 a]) (by simp) (by simp [go_sem]) ?_
  refine (note_catch B a _ _ _ F g1).mono ?_
  rintro e u' w5 ⟨rfl, rfl, rfl⟩
  have hg := gave_up HH.out HH.out (Fr.refl _ _) hB hF hFs
  exact ⟨_, results_tmp rfl _ _ _, rfl, hg.1, hg.2⟩
theorem data_cut {w : World} {base B : Nat} {l : List Int} {a : Int} (h : RdIs w base B l a none) (hl : a + 2 ≤ l.length) (ys : List Int) (hys : ys = (l.drop a.toNat).take 2) (n : Int) (hn : joinG ys = n) (hl2 : ¬ a + 2 + n ≤ l.length) :
    Calls Tryd.prog 49 #[.pointer (some ⟨B, 0, none⟩)] w fun e w' => e = .returned (.slice none 0 0) ∧ RdIs w' base B l a (some (l.length, 10)) ∧ Fr (fun k => k = B) w w' := by
  have HH := Aside0.mk h
  have HY := Aside0.mk hys
  have HN := Aside0.mk hn
  obtain ⟨A, cc, ev, hc, x0, x1, x2, rfl, xf, hC⟩ := h.cells
  clear hC h hys hn
  go_enter_defers Tryd.func49, Tryd.ntmps49
  go_wp2_with (first
    | (go_at_call 52; refine (number_ok HH.out (by decide) hl ys HY.out).mono ?_; rintro e w2 ⟨rfl, hR, hF⟩; rw [HN.out]; have HR := Aside0.mk hR; have HF := Aside0.mk hF; clear hR hF)
    | (go_at_call 51; refine (take_short HR.out (by omega)).mono ?_; rintro e w3 ⟨F, rfl, hF, hFs, hB⟩))
  obtain ⟨v, ev, g1, _⟩ := (HR.out.below hB).ex
  refine leaves_cons (f := 50) (args := #[.pointer (some ⟨B, 0, none⟩), .int .i64 a]) (by simp) (by simp [go_sem]) ?_
  refine (note_catch B a _ _ _ F g1).mono ?_
  rintro e u' w5 ⟨rfl, rfl, rfl⟩
  have hg := gave_up HH.out HR.out HF.out hB hF hFs
  exact ⟨_, results_tmp rfl _ _ _, rfl, hg.1, hg.2⟩
theorem data_ok {w : World} {base B : Nat} {l : List Int} {a : Int} (h : RdIs w base B l a none) (hl : a + 2 ≤ l.length) (ys zs : List Int) (hys : ys = (l.drop a.toNat).take 2) (n : Int) (hn : joinG ys = n) (hn0 : 0 ≤ n) (hl2 : a + 2 + n ≤ l.length) (hzs : zs = (l.drop (a + 2).toNat).take n.toNat) :
    Calls Tryd.prog 49 #[.pointer (some ⟨B, 0, none⟩)] w fun e w' => ∃ v, e = .returned v ∧ (Kd.int .u8).R 5 w' w.heap.size (fun _ => True) v zs ∧ RdIs w' base B l (a + 2 + n) none ∧ Fr (fun k => k = B) w w' := by
  have HH := Aside0.mk h
  have HY := Aside0.mk hys
  have HN := Aside0.mk hn
  have HZ := Aside0.mk hzs
  have hzl : zs.length ≤ 1099511627776 := by have := h.len; rw [hzs, List.length_take, List.length_drop]; omega
  obtain ⟨A, cc, ev, hc, x0, x1, x2, rfl, xf, hC⟩ := h.cells
  clear hC h hys hn hzs
  go_enter_defers Tryd.func49, Tryd.ntmps49
  go_wp2_with (first
    | (go_at_call 52; refine (number_ok HH.out (by decide) hl ys HY.out).mono ?_; rintro e w2 ⟨rfl, hR, hF⟩; rw [HN.out]; have HR := Aside0.mk hR; have HF := Aside0.mk hF; clear hR hF)
    | (go_at_call 51; refine (take_ok HR.out hn0 hl2 zs HZ.out).mono ?_; rintro e w3 ⟨A3, c3, rfl, hc3, hC3, hR3, hF3⟩; have HC3 := Aside0.mk hC3; have HR3 := Aside0.mk hR3; have HF3 := Aside0.mk hF3; clear hC3 hR3 hF3)
    | (go_at_call 28; refine (own_any zs _ _ _ HC3.out hzl).mono ?_; rintro e w4 ⟨v, rfl, hR, hB⟩; have HV := Aside0.mk hR; have HB4 := Aside0.mk hB; clear hR hB))
  refine leaves_cons (f := 50) (args := #[.pointer (some ⟨B, 0, none⟩), .int .i64 a]) (by simp) (by simp [go_sem]) ?_
  refine (note_idle B a).mono ?_
  rintro e u' w5 ⟨rfl, rfl, rfl⟩
  exact ⟨_, results_tmp rfl _ _ _, v, rfl, Kd.R_lower HV.out (Nat.le_trans HF.out.size HF3.out.size), HR3.out.below HB4.out, (HF.out.trans HF3.out (fun _ _ h => h)).trans (Fr.of_below (fun _ => False) HB4.out) (fun _ _ e => e.elim)⟩
theorem data_any {w : World} {base B : Nat} {l : List Int} {a : Int} {f : Option (Int × Int)} (h : RdIs w base B l a f) :
    Calls Tryd.prog 49 #[.pointer (some ⟨B, 0, none⟩)] w fun e w' => ∃ v, e = .returned v ∧ (Kd.int .u8).R 5 w' w.heap.size (fun _ => True) v (rData l a f).v ∧ RdIs w' base B l (rData l a f).a (rData l a f).f ∧ Fr (fun k => k = B) w w' := by
  unfold rData
  cases f with
  | some pc => exact (data_err h).mono fun e w' ⟨h1, h2⟩ => by subst h2; exact ⟨_, h1, Kd.R_nil _ _ _ _ _, h, Fr.refl _ _⟩
  | none =>
    rw [if_neg (by simp)]
    by_cases hl : a + 2 ≤ l.length
    · rw [if_pos hl]
      have hr := two_range l a h.byte h.lo hl
      by_cases hl2 : a + 2 + joinG ((l.drop a.toNat).take 2) ≤ l.length
      · rw [if_pos hl2]; exact data_ok h hl _ _ rfl _ rfl hr.1 hl2 rfl
      · rw [if_neg hl2]; exact (data_cut h hl _ rfl _ rfl hl2).mono fun e w' ⟨h1, h2⟩ => ⟨_, h1, Kd.R_nil _ _ _ _ _, h2⟩
    · rw [if_neg hl]; exact (data_short h hl).mono fun e w' ⟨h1, h2⟩ => ⟨_, h1, Kd.R_nil _ _ _ _ _, h2⟩
end Go.Proofs.YthlbcgaegaoanaaDoor.Rdr

namespace Go.Proofs.YthlbcgaegaoanaaDoor.Utf
open Go
def at0 (s : ByteArray) (i : Nat) : Nat := if h : i < s.size then (s[i]'h).toNat else 0
theorem at0_lt (s : ByteArray) (i : Nat) : at0 s i < 256 := by
  unfold at0; split
  · exact UInt8.toNat_lt _
  · omega
theorem get!_at0 (s : ByteArray) (i : Nat) : (s.get! i).toNat = at0 s i := by
  obtain ⟨a⟩ := s
  unfold at0
  show (a[i]!).toNat = if h : i < a.size then (a[i]'h).toNat else 0
  by_cases h : i < a.size
  · rw [dif_pos h, getElem!_pos a i h]
  · rw [dif_neg h, getElem!_neg a i h]; rfl
def cont (x : Nat) : Bool := decide (0x80 ≤ x ∧ x ≤ 0xBF)
def point (a b c d : Nat) : Nat :=
  if a ≤ 0x7F then 1
  else if (0xC2 ≤ a ∧ a ≤ 0xDF) ∧ cont b then 2
  else if (a = 0xE0 ∧ (0xA0 ≤ b ∧ b ≤ 0xBF) ∧ cont c) ∨ ((0xE1 ≤ a ∧ a ≤ 0xEC) ∧ cont b ∧ cont c) ∨ (a = 0xED ∧ (0x80 ≤ b ∧ b ≤ 0x9F) ∧ cont c) ∨ ((0xEE ≤ a ∧ a ≤ 0xEF) ∧ cont b ∧ cont c) then 3
  else if (a = 0xF0 ∧ (0x90 ≤ b ∧ b ≤ 0xBF) ∧ cont c ∧ cont d) ∨ ((0xF1 ≤ a ∧ a ≤ 0xF3) ∧ cont b ∧ cont c ∧ cont d) ∨ (a = 0xF4 ∧ (0x80 ≤ b ∧ b ≤ 0x8F) ∧ cont c ∧ cont d) then 4
  else 0
def dec (a b c d : Nat) : Nat × Nat :=
  if a < 0x80 then (a, 1)
  else if a / 32 == 6 && b / 64 == 2 then
    let x := (a % 32) * 64 + b % 64
    if x ≥ 0x80 then (x, 2) else (0xFFFD, 1)
  else if a / 16 == 14 && b / 64 == 2 && c / 64 == 2 then
    let x := (a % 16) * 4096 + (b % 64) * 64 + c % 64
    if x ≥ 0x800 && Go.Utf8.valid x then (x, 3) else (0xFFFD, 1)
  else if a / 8 == 30 && b / 64 == 2 && c / 64 == 2 && d / 64 == 2 then
    let x := (a % 8) * 262144 + (b % 64) * 4096 + (c % 64) * 64 + d % 64
    if x ≥ 0x10000 && Go.Utf8.valid x then (x, 4) else (0xFFFD, 1)
  else (0xFFFD, 1)
theorem cont_iff (s : ByteArray) (i : Nat) : (decide (i < s.size) && (s.get! i).toNat / 64 == 2) = (at0 s i / 64 == 2) := by
  rw [get!_at0]
  by_cases h : i < s.size
  · simp [h]
  · simp [h, at0]
theorem cont_iff' (s : ByteArray) (i : Nat) : (decide (i < s.size) && at0 s i / 64 == 2) = (at0 s i / 64 == 2) := by
  rw [← get!_at0]; exact cont_iff s i ▸ (by rw [get!_at0])
theorem decode_dec (s : ByteArray) (i : Nat) : Go.Utf8.decode s i = dec (at0 s i) (at0 s (i+1)) (at0 s (i+2)) (at0 s (i+3)) := by
  unfold Go.Utf8.decode dec
  simp only [get!_at0, cont_iff', Nat.add_zero, Go.Utf8.runeError]
theorem d32 (a : Nat) : (a / 32 == 6) = decide (0xC0 ≤ a ∧ a ≤ 0xDF) := by rw [Bool.eq_iff_iff]; simp; omega
theorem d16 (a : Nat) : (a / 16 == 14) = decide (0xE0 ≤ a ∧ a ≤ 0xEF) := by rw [Bool.eq_iff_iff]; simp; omega
theorem d8 (a : Nat) : (a / 8 == 30) = decide (0xF0 ≤ a ∧ a ≤ 0xF7) := by rw [Bool.eq_iff_iff]; simp; omega
theorem d64 (a : Nat) : (a / 64 == 2) = cont a := by unfold cont; rw [Bool.eq_iff_iff]; simp; omega
theorem vld (x : Nat) : Go.Utf8.valid (x : Int) = decide (x < 0xD800 ∨ (0xE000 ≤ x ∧ x ≤ 0x10FFFF)) := by
  unfold Go.Utf8.valid; rw [Bool.eq_iff_iff]; simp; omega
structure Good (a b c d : Nat) (w : Nat) (r : Nat × Nat) : Prop where
  bad : w = 0 → r = (0xFFFD, 1) ∧ ¬ (a = 0xEF ∧ b = 0xBF ∧ c = 0xBD)
  width : w ≠ 0 → r.2 = w
  zero : w ≠ 0 → (r.1 = 0 ↔ a = 0)
  err : w ≠ 0 → r.1 = 0xFFFD → (a = 0xEF ∧ b = 0xBF ∧ c = 0xBD)
theorem good0 {a b c d : Nat} (h : ¬ (a = 0xEF ∧ b = 0xBF ∧ c = 0xBD)) : Good a b c d 0 (0xFFFD, 1) := ⟨fun _ => ⟨rfl, h⟩, fun h => absurd rfl h, fun h => absurd rfl h, fun h => absurd rfl h⟩
theorem goodw {a b c d w x : Nat} (hw : w ≠ 0) (hz : x = 0 ↔ a = 0) (he : x = 0xFFFD → (a = 0xEF ∧ b = 0xBF ∧ c = 0xBD)) : Good a b c d w (x, w) := ⟨fun h => absurd h hw, fun _ => rfl, fun _ => hz, fun _ => he⟩
theorem cont_bd {b : Nat} (h : cont b = true) : 128 ≤ b ∧ b ≤ 191 := by simpa [cont] using h
theorem cont_no {b : Nat} (h : cont b = false) : b < 128 ∨ 191 < b := by simp [cont] at h; omega
theorem dec_good (a b c d : Nat) (ha : a < 256) : Good a b c d (point a b c d) (dec a b c d) := by
  unfold dec
  simp only [d32, d16, d8, d64, vld]
  by_cases h1 : a < 0x80
  · rw [if_pos h1]; unfold point; rw [if_pos (by omega)]
    exact goodw (by omega) Iff.rfl (by omega)
  rw [if_neg h1]
  by_cases hE : 0xE0 ≤ a
  case neg =>
    have e2 : point a b c d = if (0xC2 ≤ a ∧ a ≤ 0xDF) ∧ cont b then 2 else 0 := by
      unfold point; rw [if_neg (by omega)]
      by_cases h : (0xC2 ≤ a ∧ a ≤ 0xDF) ∧ cont b = true
      · rw [if_pos h, if_pos h]
      · rw [if_neg h, if_neg h, if_neg (by omega), if_neg (by omega)]
    rw [e2]
    cases hb : cont b
    · simp only [Bool.and_false, Bool.false_and, Bool.false_eq_true, if_false, and_false]
      have := cont_no hb
      exact good0 (by omega)
    · have := cont_bd hb
      by_cases hC : 0xC0 ≤ a
      · by_cases hC2 : 0xC2 ≤ a
        · rw [if_pos (by simp; omega), if_pos (by simp; omega), if_pos (by omega)]
          exact goodw (by omega) (by omega) (by omega)
        · rw [if_neg (by omega), if_pos (by simp; omega), if_neg (by omega)]
          exact good0 (by omega)
      · rw [if_neg (by omega), if_neg (by simp; omega), if_neg (by simp; omega), if_neg (by simp; omega)]
        exact good0 (by omega)
  rw [if_neg (by simp; omega)]
  by_cases hF : 0xF0 ≤ a
  case neg =>
    rw [if_neg (c := (decide (0xF0 ≤ a ∧ a ≤ 0xF7) && cont b && cont c && cont d) = true) (by simp; omega)]
    have e3 : point a b c d = if (a = 0xE0 ∧ (0xA0 ≤ b ∧ b ≤ 0xBF) ∧ cont c) ∨ ((0xE1 ≤ a ∧ a ≤ 0xEC) ∧ cont b ∧ cont c) ∨ (a = 0xED ∧ (0x80 ≤ b ∧ b ≤ 0x9F) ∧ cont c) ∨ ((0xEE ≤ a ∧ a ≤ 0xEF) ∧ cont b ∧ cont c) then 3 else 0 := by
      unfold point; rw [if_neg (by omega), if_neg (by omega)]
      split
      · rfl
      · rw [if_neg (by omega)]
    rw [e3]
    cases hc : cont c
    · have := cont_no hc
      simp only [Bool.and_false, Bool.false_eq_true, if_false, and_false, or_false]
      exact good0 (by omega)
    · cases hb : cont b
      · have := cont_no hb
        simp only [Bool.and_false, Bool.false_and, Bool.false_eq_true, if_false, and_false, or_false, and_true, false_or]
        rw [if_neg (by omega)]
        exact good0 (by omega)
      · have := cont_bd hb; have := cont_bd hc
        simp only [and_true]
        by_cases hx : (a = 0xE0 ∧ b < 0xA0) ∨ (a = 0xED ∧ 0xA0 ≤ b)
        · rw [if_neg (by omega), if_pos (by simp; omega), if_neg (by simp; omega)]
          exact good0 (by omega)
        · rw [if_pos (by omega), if_pos (by simp; omega), if_pos (by simp; omega)]
          exact goodw (by omega) (by omega) (by omega)
  rw [if_neg (by simp; omega)]
  have e4 : point a b c d = if (a = 0xF0 ∧ (0x90 ≤ b ∧ b ≤ 0xBF) ∧ cont c ∧ cont d) ∨ ((0xF1 ≤ a ∧ a ≤ 0xF3) ∧ cont b ∧ cont c ∧ cont d) ∨ (a = 0xF4 ∧ (0x80 ≤ b ∧ b ≤ 0x8F) ∧ cont c ∧ cont d) then 4 else 0 := by
    unfold point; rw [if_neg (by omega), if_neg (by omega), if_neg (by omega)]
  rw [e4]
  cases hc : cont c
  · simp only [Bool.and_false, Bool.false_and, Bool.false_eq_true, if_false, and_false, false_and, or_false]
    exact good0 (by omega)
  cases hd : cont d
  · simp only [Bool.and_false, Bool.false_eq_true, if_false, and_false, or_false]
    exact good0 (by omega)
  have := cont_bd hc; have := cont_bd hd
  cases hb : cont b
  · have := cont_no hb
    simp only [Bool.and_false, Bool.false_and, Bool.false_eq_true, if_false, and_false, and_true, false_or]
    rw [if_neg (by omega)]
    exact good0 (by omega)
  have := cont_bd hb
  simp only [and_true]
  by_cases h7 : a ≤ 0xF7
  · by_cases hx : (a = 0xF0 ∧ b < 0x90) ∨ (a = 0xF4 ∧ 0x90 ≤ b) ∨ 0xF4 < a
    · rw [if_neg (by omega), if_pos (by simp; omega), if_neg (by simp; omega)]
      exact good0 (by omega)
    · rw [if_pos (by omega), if_pos (by simp; omega), if_pos (by simp; omega)]
      exact goodw (by omega) (by omega) (by omega)
  · rw [if_neg (by omega), if_neg (by simp; omega)]
    exact good0 (by omega)
def chkL (s : ByteArray) : Nat → Nat → Int × Int
  | 0, _ => (0, 0)
  | b + 1, i =>
    if i < s.size then
      if at0 s i = 0 then ((i : Int), 14)
      else if point (at0 s i) (at0 s (i+1)) (at0 s (i+2)) (at0 s (i+3)) = 0 then ((i : Int), 13)
      else chkL s b (i + point (at0 s i) (at0 s (i+1)) (at0 s (i+2)) (at0 s (i+3)))
    else (0, 0)
def chk (s : ByteArray) : Int × Int := if 65535 < s.size then (65535, 11) else chkL s (s.size + 1) 0
theorem at0_list (s : ByteArray) (j : Nat) : at0 s j = (s.data.toList[j]?.getD 0).toNat := by
  obtain ⟨⟨l⟩⟩ := s
  unfold at0
  by_cases h : j < l.length
  · rw [dif_pos (by exact h), List.getElem?_eq_getElem h]; rfl
  · rw [dif_neg (by exact h), List.getElem?_eq_none (by show l.length ≤ j; omega)]; rfl
theorem err_prefix (s : ByteArray) (i : Nat) :
    Lib.hasPrefix (s.extract i s.size).data.toList [239, 191, 189] = decide (at0 s i = 0xEF ∧ at0 s (i+1) = 0xBF ∧ at0 s (i+2) = 0xBD) := by
  have e : (s.extract i s.size).data.toList = s.data.toList.drop i := by
    rw [Lib.extract_data, List.take_of_length_le (by rw [List.length_drop, Array.length_toList]; exact Nat.le_refl _)]
  rw [e]
  have h0 : at0 s i = ((s.data.toList.drop i)[0]?.getD 0).toNat := by rw [at0_list, List.getElem?_drop]; rfl
  have h1 : at0 s (i+1) = ((s.data.toList.drop i)[1]?.getD 0).toNat := by rw [at0_list, List.getElem?_drop]
  have h2 : at0 s (i+2) = ((s.data.toList.drop i)[2]?.getD 0).toNat := by rw [at0_list, List.getElem?_drop]
  rw [h0, h1, h2]
  generalize s.data.toList.drop i = l
  have tn : ∀ (a : UInt8) (n : Nat), n < 256 → ((UInt8.ofNat n == a) = decide (a.toNat = n)) := fun a n hn => by
    rw [Bool.eq_iff_iff, beq_iff_eq, decide_eq_true_eq]
    constructor
    · rintro rfl; simp; omega
    · intro h; rw [← h]; simp
  unfold Lib.hasPrefix
  match l with
  | [] => simp [List.isPrefixOf]
  | [a] => simp [List.isPrefixOf]
  | [a, b] => simp [List.isPrefixOf]
  | a :: b :: c :: l =>
    have t1 := tn a 239 (by omega); have t2 := tn b 191 (by omega); have t3 := tn c 189 (by omega)
    show ((239 : UInt8) == a && ((191 : UInt8) == b && ((189 : UInt8) == c && true))) = _
    have e1 : ((239 : UInt8) == a) = decide (a.toNat = 239) := t1
    have e2 : ((191 : UInt8) == b) = decide (b.toNat = 191) := t2
    have e3 : ((189 : UInt8) == c) = decide (c.toNat = 189) := t3
    rw [e1, e2, e3]
    simp
theorem point_pos {a b c d : Nat} (h : point a b c d ≠ 0) : 1 ≤ point a b c d := by omega
end Go.Proofs.YthlbcgaegaoanaaDoor.Utf

namespace Go.Proofs.YthlbcgaegaoanaaDoor.Chk
open Go Go.RowKit Go.Proofs.YthlbcgaegaoanaaDoor.Utf
theorem stringslite_hp (s p : ByteArray) (w : World) :
    Calls Tryd.prog 72 #[.string s, .string p] w fun e w' => e = .returned (.bool (Lib.hasPrefix s.data.toList p.data.toList)) ∧ w = w' := by
  rw [← Lib.hasPrefix_of_take, ← Lib.size_eq, ← Lib.size_eq]
  go_enter Tryd.func72, Tryd.ntmps72
  go_wp2
  · rename_i h
    go_ret
    refine ⟨?_, rfl⟩
    show Ending.returned (Value.bool ((s.extract 0 p.size).toList == p.toList)) = _
    rw [Lib.extract_toList, Lib.toList_data]
    simp [h]
  · rename_i h
    go_ret
    refine ⟨?_, rfl⟩
    show Ending.returned (Value.bool false) = _
    simp [h]
theorem strings_hp (s p : ByteArray) (w : World) :
    Calls Tryd.prog 65 #[.string s, .string p] w fun e w' => e = .returned (.bool (Lib.hasPrefix s.data.toList p.data.toList)) ∧ w = w' := by
  go_enter Tryd.func65, Tryd.ntmps65
  go_wp2_with (go_at_call 72; refine (stringslite_hp _ _ _).mono ?_; rintro e w' ⟨rfl, rfl⟩)
  go_ret
  exact ⟨rfl, rfl⟩
set_option maxRecDepth 100000 in
theorem check_long (s : ByteArray) (w : World) (h : 65535 < s.size) :
    Calls Tryd.prog 53 #[.string s] w fun e w' => e = .returned (.tuple #[.int .i64 (chk s).1, .int .i64 (chk s).2]) ∧ Below w.heap.size w w' := by
  have e : chk s = (65535, 11) := by unfold chk; rw [if_pos h]
  rw [e]
  go_enter Tryd.func53, Tryd.ntmps53
  go_wp2
  go_ret2
  exact ⟨rfl, Below.refl _ _⟩
set_option maxRecDepth 100000 in
set_option maxHeartbeats 1000000 in
theorem check_short (s : ByteArray) (w : World) (h : ¬ 65535 < s.size) :
    Calls Tryd.prog 53 #[.string s] w fun e w' => e = .returned (.tuple #[.int .i64 (chk s).1, .int .i64 (chk s).2]) ∧ Below w.heap.size w w' := by
  have e : chk s = chkL s (s.size + 1) 0 := by unfold chk; rw [if_neg h]
  rw [e]
  obtain ⟨r1, r2, hr⟩ : ∃ r1 r2, chkL s (s.size + 1) 0 = (r1, r2) := ⟨_, _, rfl⟩
  rw [hr]
  have HR := Lib.hid hr
  clear hr e
  go_enter Tryd.func53, Tryd.ntmps53
  go_wp2
  go_loopg [] (s.size + 1) (fun b wr => ∃ pos : Nat, wr = w.iter s pos ∧ Hid (chkL s b pos = (r1, r2)) ∧ s.size < pos + b)
  case atStart => exact ⟨0, rfl, HR, by omega⟩
  case round =>
    obtain ⟨pos, rfl, HC, hb⟩ := hrel
    clear HR
    by_cases hp : pos < s.size
    · have hnx : ∀ ty, (Instr.next (.pointer (some ⟨w.heap.size, 0, none⟩)) true ty).run Tryd.prog (w.iter s pos) = _ := fun ty => run_next_any w s pos ty hp
      cases gk with
      | zero => omega
      | succ gk =>
      have hc := HC.out
      clear HC
      simp only [chkL, hp, if_true] at hc
      have hgood := dec_good (at0 s pos) (at0 s (pos+1)) (at0 s (pos+2)) (at0 s (pos+3)) (at0_lt _ _)
      rw [← decode_dec] at hgood
      have hle := decode_le s pos
      have hep := err_prefix s pos
      generalize Utf8.decode s pos = dr at hgood hnx hle
      obtain ⟨dc, dw⟩ := dr
      have hp1 : at0 s pos = 0 → point (at0 s pos) (at0 s (pos+1)) (at0 s (pos+2)) (at0 s (pos+3)) ≠ 0 := fun h => by unfold point; rw [if_pos (by omega)]; omega
      generalize hpt : point (at0 s pos) (at0 s (pos+1)) (at0 s (pos+2)) (at0 s (pos+3)) = pt at hgood hc hp1
      clear hpt
      by_cases h0 : at0 s pos = 0
      · rw [if_pos h0] at hc
        simp only [Prod.mk.injEq] at hc
        obtain ⟨rfl, rfl⟩ := hc
        have hz : ((dc : Int) == 0) = true := by
          have := (hgood.zero (hp1 h0)).2 h0
          simp only [beq_iff_eq]; exact_mod_cast this
        clear hgood hep hle hp1
        go_wp2
        go_ret2
        exact ⟨rfl, (Below.refl _ _).alloc (Nat.le_refl _) _⟩
      · rw [if_neg h0] at hc
        by_cases hp0 : pt = 0
        · rw [if_pos hp0] at hc
          simp only [Prod.mk.injEq] at hc
          obtain ⟨rfl, rfl⟩ := hc
          have hdc := (hgood.bad hp0).1
          simp only [Prod.mk.injEq] at hdc
          obtain ⟨rfl, rfl⟩ := hdc
          have hno := (hgood.bad hp0).2
          have hpf : Lib.hasPrefix (List.take (s.size - pos) (List.drop pos s.data.toList)) [239, 191, 189] = false := by rw [← Lib.extract_data, hep]; simp only [decide_eq_false_iff_not]; exact hno
          clear hgood hep hle hp1 hno hp0 h0
          go_wp2_with (go_at_call 65; refine (strings_hp _ _ _).mono ?_; rintro e w' ⟨rfl, rfl⟩)
          go_ret2
          exact ⟨rfl, (Below.refl _ _).alloc (Nat.le_refl _) _⟩
        · rw [if_neg hp0] at hc
          have hw1 : dw = pt := hgood.width hp0
          subst hw1
          have hz : ((dc : Int) == 0) = false := by
            have := hgood.zero hp0
            simp only [beq_eq_false_iff_ne]; intro e; exact h0 (this.1 (by simp only; omega))
          have HC := Lib.hid hc
          have HW := Lib.hid (show 1 ≤ dw by omega)
          clear hc
          by_cases he : dc = 65533
          · subst he
            have hpf : Lib.hasPrefix (List.take (s.size - pos) (List.drop pos s.data.toList)) [239, 191, 189] = true := by rw [← Lib.extract_data, hep]; simp only [decide_eq_true_eq]; exact hgood.err hp0 rfl
            clear hgood hep hle hp1 hz
            go_wp2_with (go_at_call 65; refine (strings_hp _ _ _).mono ?_; rintro e w' ⟨rfl, rfl⟩)
            go_roundg gk
            case rel => have := HW.out; exact ⟨pos + dw, rfl, HC, by omega⟩
            case measure => omega
          · have he2 : ((dc : Int) == 65533) = false := by simp only [beq_eq_false_iff_ne]; omega
            clear hgood hep hle hp1
            go_wp2
            go_roundg gk
            case rel => have := HW.out; exact ⟨pos + dw, rfl, HC, by omega⟩
            case measure => omega
    · have hnx : ∀ ty, (Instr.next (.pointer (some ⟨w.heap.size, 0, none⟩)) true ty).run Tryd.prog (w.iter s pos) = _ := fun ty => run_next_end w s pos ty hp
      have hc : chkL s gk pos = (0, 0) := by
        cases gk with
        | zero => rfl
        | succ gk => simp only [chkL, hp, if_false]
      rw [HC.out] at hc
      clear HC
      simp only [Prod.mk.injEq] at hc
      obtain ⟨rfl, rfl⟩ := hc
      go_wp2
      go_ret2
      exact ⟨rfl, (Below.refl _ _).alloc (Nat.le_refl _) _⟩
theorem check_any (s : ByteArray) (w : World) :
    Calls Tryd.prog 53 #[.string s] w fun e w' => e = .returned (.tuple #[.int .i64 (chk s).1, .int .i64 (chk s).2]) ∧ Below w.heap.size w w' := by
  by_cases h : 65535 < s.size
  · exact check_long s w h
  · exact check_short s w h
end Go.Proofs.YthlbcgaegaoanaaDoor.Chk

namespace Go.Proofs.YthlbcgaegaoanaaDoor.Rdr
open Go Go.RowKit Go.Proofs.YthlbcgaegaoanaaDoorW.PrintWords Go.Proofs.YthlbcgaegaoanaaDoorW.PrintLast Go.Proofs.YthlbcgaegaoanaaDoorW.PrintMore Go.Proofs.YthlbcgaegaoanaaDoor.Kinds Go.Proofs.YthlbcgaegaoanaaDoor.Utf Go.Proofs.YthlbcgaegaoanaaDoor.Chk
set_option linter.unusedVariables false
set_option linter.unusedSimpArgs false
def rText (l : List Int) (a : Int) (f : Option (Int × Int)) : Rd ByteArray :=
  if f.isSome then ⟨⟨#[]⟩, a, f⟩ else if a + 2 ≤ l.length then
    if a + 2 + joinG ((l.drop a.toNat).take 2) ≤ l.length then
      if (chk (strOfNums ((l.drop (a + 2).toNat).take (joinG ((l.drop a.toNat).take 2)).toNat))).2 = 0 then ⟨strOfNums ((l.drop (a + 2).toNat).take (joinG ((l.drop a.toNat).take 2)).toNat), a + 2 + joinG ((l.drop a.toNat).take 2), none⟩
      else ⟨⟨#[]⟩, a, some (a + 2 + (chk (strOfNums ((l.drop (a + 2).toNat).take (joinG ((l.drop a.toNat).take 2)).toNat))).1, (chk (strOfNums ((l.drop (a + 2).toNat).take (joinG ((l.drop a.toNat).take 2)).toNat))).2)⟩
    else ⟨⟨#[]⟩, a, some (l.length, 10)⟩
  else ⟨⟨#[]⟩, a, some (l.length, 10)⟩
theorem text_err {w : World} {base B : Nat} {l : List Int} {a : Int} {pc : Int × Int} (h : RdIs w base B l a (some pc)) :
    Calls Tryd.prog 33 #[.pointer (some ⟨B, 0, none⟩)] w fun e w' => e = .returned (.string ⟨#[]⟩) ∧ w = w' := by
  obtain ⟨A, cc, ev, hc, x0, x1, x2, ⟨F, rfl, hF, hbF⟩, xf, hC⟩ := h.cells
  clear hC h hF
  go_enter_defers Tryd.func33, Tryd.ntmps33
  go_wp2
  exact ⟨_, results_tmp rfl _ _ _, rfl, rfl⟩
set_option maxRecDepth 100000 in
theorem text_short {w : World} {base B : Nat} {l : List Int} {a : Int} (h : RdIs w base B l a none) (hl : ¬ a + 2 ≤ l.length) :
    Calls Tryd.prog 33 #[.pointer (some ⟨B, 0, none⟩)] w fun e w' => e = .returned (.string ⟨#[]⟩) ∧ RdIs w' base B l a (some (l.length, 10)) ∧ Fr (fun k => k = B) w w' := by
  have HH := Aside0.mk h
  obtain ⟨A, cc, ev, hc, x0, x1, x2, rfl, xf, hC⟩ := h.cells
  clear hC h
  go_enter_defers Tryd.func33, Tryd.ntmps33
  go_wp2_with (go_at_call 52; refine (number_short HH.out (by omega)).mono ?_; rintro e w2 ⟨F, rfl, hF, hFs, hB⟩)
  obtain ⟨v, ev, g1, _⟩ := (HH.out.below hB).ex
  refine leaves_cons (f := 50) (args := #[.pointer (some ⟨B, 0, none⟩), .int .i64 a]) (by simp) (by simp [go_sem]) ?_
  refine (note_catch B a _ _ _ F g1).mono ?_
  rintro e u' w5 ⟨rfl, rfl, rfl⟩
  have hg := gave_up HH.out HH.out (Fr.refl _ _) hB hF hFs
  exact ⟨_, results_tmp rfl _ _ _, rfl, hg.1, hg.2⟩
set_option maxRecDepth 100000 in
theorem text_cut {w : World} {base B : Nat} {l : List Int} {a : Int} (h : RdIs w base B l a none) (hl : a + 2 ≤ l.length) (ys : List Int) (hys : ys = (l.drop a.toNat).take 2) (n : Int) (hn : joinG ys = n) (hl2 : ¬ a + 2 + n ≤ l.length) :
    Calls Tryd.prog 33 #[.pointer (some ⟨B, 0, none⟩)] w fun e w' => e = .returned (.string ⟨#[]⟩) ∧ RdIs w' base B l a (some (l.length, 10)) ∧ Fr (fun k => k = B) w w' := by
  have HH := Aside0.mk h
  have HY := Aside0.mk hys
  have HN := Aside0.mk hn
  obtain ⟨A, cc, ev, hc, x0, x1, x2, rfl, xf, hC⟩ := h.cells
  clear hC h hys hn
  go_enter_defers Tryd.func33, Tryd.ntmps33
  go_wp2_with (first
    | (go_at_call 52; refine (number_ok HH.out (by decide) hl ys HY.out).mono ?_; rintro e w2 ⟨rfl, hR, hF⟩; rw [HN.out]; obtain ⟨A2, c2, ev2, hc2, y0, y1, y2, _, yf, _⟩ := hR.cells; have HR := Aside0.mk hR; have HF := Aside0.mk hF; clear hR hF)
    | (go_at_call 51; refine (take_short HR.out (by omega)).mono ?_; rintro e w3 ⟨F, rfl, hF, hFs, hB⟩))
  obtain ⟨v, ev, g1, _⟩ := (HR.out.below hB).ex
  refine leaves_cons (f := 50) (args := #[.pointer (some ⟨B, 0, none⟩), .int .i64 a]) (by simp) (by simp [go_sem]) ?_
  refine (note_catch B a _ _ _ F g1).mono ?_
  rintro e u' w5 ⟨rfl, rfl, rfl⟩
  have hg := gave_up HH.out HR.out HF.out hB hF hFs
  exact ⟨_, results_tmp rfl _ _ _, rfl, hg.1, hg.2⟩
set_option maxRecDepth 100000 in
set_option maxHeartbeats 1000000 in
theorem text_ok {w : World} {base B : Nat} {l : List Int} {a : Int} (h : RdIs w base B l a none) (hl : a + 2 ≤ l.length) (ys zs : List Int) (hys : ys = (l.drop a.toNat).take 2) (n : Int) (hn : joinG ys = n) (hn0 : 0 ≤ n) (hl2 : a + 2 + n ≤ l.length) (hzs : zs = (l.drop (a + 2).toNat).take n.toNat) (hc : (chk (strOfNums zs)).2 = 0) :
    Calls Tryd.prog 33 #[.pointer (some ⟨B, 0, none⟩)] w fun e w' => e = .returned (.string (strOfNums zs)) ∧ RdIs w' base B l (a + 2 + n) none ∧ Fr (fun k => k = B) w w' := by
  have HH := Aside0.mk h
  have HY := Aside0.mk hys
  have HN := Aside0.mk hn
  have HZ := Aside0.mk hzs
  have HC := Aside0.mk hc
  obtain ⟨A, cc, ev, hcc, x0, x1, x2, rfl, xf, hC⟩ := h.cells
  clear hC h hys hn hzs hc
  go_enter_defers Tryd.func33, Tryd.ntmps33
  go_wp2_with (first
    | (go_at_call 52; refine (number_ok HH.out (by decide) hl ys HY.out).mono ?_; rintro e w2 ⟨rfl, hR, hF⟩; rw [HN.out]; obtain ⟨A2, c2, ev2, hc2, y0, y1, y2, _, yf, _⟩ := hR.cells; have HR := Aside0.mk hR; have HF := Aside0.mk hF; clear hR hF)
    | (go_at_call 51; refine (take_ok HR.out hn0 hl2 zs HZ.out).mono ?_; rintro e w3 ⟨A3, c3, rfl, hc3, hC3, hR3, hF3⟩; have HS := Kd.C_string (P := Tryd.prog) (c := c3) Tryd.underlying22 Tryd.underlying5 Tryd.underlying9 hC3; have HR3 := Aside0.mk hR3; have HF3 := Aside0.mk hF3; clear hC3 hR3 hF3)
    | (go_at_call 53; refine (check_any (strOfNums zs) _).mono ?_; rintro e w4 ⟨rfl, hB4⟩; rw [HC.out]; have HB4 := Aside0.mk hB4; clear hB4))
  refine leaves_cons (f := 50) (args := #[.pointer (some ⟨B, 0, none⟩), .int .i64 a]) (by simp) (by simp [go_sem]) ?_
  refine (note_idle B a).mono ?_
  rintro e u' w5 ⟨rfl, rfl, rfl⟩
  exact ⟨_, results_tmp rfl _ _ _, rfl, HR3.out.below HB4.out, (HF.out.trans HF3.out (fun _ _ h => h)).trans (Fr.of_below (fun _ => False) HB4.out) (fun _ _ e => e.elim)⟩
theorem chkL_range (s : ByteArray) : ∀ (b i : Nat), 0 ≤ (chkL s b i).1 ∧ (chkL s b i).1 ≤ s.size
  | 0, i => ⟨Int.le_refl _, by show (0 : Int) ≤ _; omega⟩
  | b + 1, i => by
    simp only [chkL]
    by_cases h : i < s.size
    · rw [if_pos h]
      by_cases h0 : at0 s i = 0
      · rw [if_pos h0]; simp only; omega
      · rw [if_neg h0]
        by_cases h1 : point (at0 s i) (at0 s (i+1)) (at0 s (i+2)) (at0 s (i+3)) = 0
        · rw [if_pos h1]; simp only; omega
        · rw [if_neg h1]; exact chkL_range s b _
    · rw [if_neg h]; simp
theorem chk_range (s : ByteArray) : 0 ≤ (chk s).1 ∧ (chk s).1 ≤ 65535 := by
  unfold chk
  by_cases h : 65535 < s.size
  · rw [if_pos h]; simp
  · rw [if_neg h]; have := chkL_range s (s.size + 1) 0; omega
set_option maxRecDepth 100000 in
set_option maxHeartbeats 1000000 in
theorem text_bad {w : World} {base B : Nat} {l : List Int} {a : Int} (h : RdIs w base B l a none) (hl : a + 2 ≤ l.length) (ys zs : List Int) (hys : ys = (l.drop a.toNat).take 2) (n : Int) (hn : joinG ys = n) (hn0 : 0 ≤ n) (hl2 : a + 2 + n ≤ l.length) (hzs : zs = (l.drop (a + 2).toNat).take n.toNat) (k c : Int) (hc : chk (strOfNums zs) = (k, c)) (hc0 : c ≠ 0) :
    Calls Tryd.prog 33 #[.pointer (some ⟨B, 0, none⟩)] w fun e w' => e = .returned (.string ⟨#[]⟩) ∧ RdIs w' base B l a (some (a + 2 + k, c)) ∧ Fr (fun k => k = B) w w' := by
  have hk := chk_range (strOfNums zs)
  rw [hc] at hk
  have ek : wrap64 (a + 2 + k) = a + 2 + k := by have := h.lo; have := h.hi; have := h.len; unfold wrap64; simp only at hk; omega
  have b0 : (c != 0) = true := by simpa using hc0
  have HH := Aside0.mk h
  have HY := Aside0.mk hys
  have HN := Aside0.mk hn
  have HZ := Aside0.mk hzs
  have HC := Aside0.mk hc
  obtain ⟨A, cc, ev, hcc, x0, x1, x2, rfl, xf, hC⟩ := h.cells
  clear hC h hys hn hzs hc hk
  go_enter_defers Tryd.func33, Tryd.ntmps33
  go_wp2_with (first
    | (go_at_call 52; refine (number_ok HH.out (by decide) hl ys HY.out).mono ?_; rintro e w2 ⟨rfl, hR, hF⟩; rw [HN.out]; obtain ⟨A2, c2, ev2, hc2, y0, y1, y2, _, yf, _⟩ := hR.cells; have HR := Aside0.mk hR; have HF := Aside0.mk hF; clear hR hF)
    | (go_at_call 51; refine (take_ok HR.out hn0 hl2 zs HZ.out).mono ?_; rintro e w3 ⟨A3, c3, rfl, hc3, hC3, hR3, hF3⟩; have HS := Kd.C_string (P := Tryd.prog) (c := c3) Tryd.underlying22 Tryd.underlying5 Tryd.underlying9 hC3; have HR3 := Aside0.mk hR3; have HF3 := Aside0.mk hF3; clear hC3 hR3 hF3)
    | (go_at_call 53; refine (check_any (strOfNums zs) _).mono ?_; rintro e w4 ⟨rfl, hB4⟩; rw [HC.out]; have HB4 := Aside0.mk hB4; clear hB4)
    | (go_at_call 54; refine (fail_any _ _ _).mono ?_; rintro e w5 ⟨rfl, rfl⟩))
  have hB5 := Aside0.mk (below_alloc HB4.out (.cells #[.int .i64 (a + 2 + k), .int .i64 c] 61))
  obtain ⟨v, ev, g1, _⟩ := (HR3.out.below hB5.out).ex
  refine leaves_cons (f := 50) (args := #[.pointer (some ⟨B, 0, none⟩), .int .i64 a]) (by simp) (by simp [go_sem]) ?_
  refine (note_catch B a _ _ _ _ g1).mono ?_
  rintro e u' w5 ⟨rfl, rfl, rfl⟩
  have hg := gave_up HH.out HR3.out (HF.out.trans HF3.out (fun _ _ h => h)) hB5.out (heap_alloc_new _ _) HB4.out.size
  exact ⟨_, results_tmp rfl _ _ _, rfl, hg.1, hg.2⟩
theorem text_any {w : World} {base B : Nat} {l : List Int} {a : Int} {f : Option (Int × Int)} (h : RdIs w base B l a f) :
    Calls Tryd.prog 33 #[.pointer (some ⟨B, 0, none⟩)] w fun e w' => e = .returned (.string (rText l a f).v) ∧ RdIs w' base B l (rText l a f).a (rText l a f).f ∧ Fr (fun k => k = B) w w' := by
  unfold rText
  cases f with
  | some pc => exact (text_err h).mono fun e w' ⟨h1, h2⟩ => by subst h2; exact ⟨h1, h, Fr.refl _ _⟩
  | none =>
    rw [if_neg (by simp)]
    by_cases hl : a + 2 ≤ l.length
    · rw [if_pos hl]
      have hr := two_range l a h.byte h.lo hl
      by_cases hl2 : a + 2 + joinG ((l.drop a.toNat).take 2) ≤ l.length
      · rw [if_pos hl2]
        by_cases hc : (chk (strOfNums ((l.drop (a + 2).toNat).take (joinG ((l.drop a.toNat).take 2)).toNat))).2 = 0
        · rw [if_pos hc]; exact text_ok h hl _ _ rfl _ rfl hr.1 hl2 rfl hc
        · rw [if_neg hc]; exact text_bad h hl _ _ rfl _ rfl hr.1 hl2 rfl _ _ rfl hc
      · rw [if_neg hl2]; exact text_cut h hl _ rfl _ rfl hl2
    · rw [if_neg hl]; exact text_short h hl
/-! ### Rest, End -/
theorem rest_err {w : World} {base B : Nat} {l : List Int} {a : Int} {pc : Int × Int} (h : RdIs w base B l a (some pc)) :
    Calls Tryd.prog 35 #[.pointer (some ⟨B, 0, none⟩)] w fun e w' => e = .returned (.slice none 0 0) ∧ w = w' := by
  obtain ⟨A, cc, ev, hc, x0, x1, x2, ⟨F, rfl, hF, hbF⟩, xf, hC⟩ := h.cells
  clear hC h hF
  go_enter Tryd.func35, Tryd.ntmps35
  go_wp2
  go_ret
  exact ⟨rfl, rfl⟩
set_option maxRecDepth 100000 in
theorem rest_ok {w : World} {base B : Nat} {l : List Int} {a : Int} (h : RdIs w base B l a none) :
    Calls Tryd.prog 35 #[.pointer (some ⟨B, 0, none⟩)] w fun e w' => ∃ v, e = .returned v ∧ (Kd.int .u8).R 5 w' w.heap.size (fun _ => True) v (l.drop a.toNat) ∧ RdIs w' base B l l.length none ∧ Fr (fun k => k = B) w w' := by
  have HH := Aside0.mk h
  have hlo := h.lo
  have hhi := h.hi
  have hle := h.len
  have HD := Aside0.mk (h.below (w1 := w.drew) (below_drew1 (Below.refl _ _)))
  obtain ⟨A, cc, ev, hc, x0, x1, x2, rfl, xf, hC⟩ := h.cells
  clear hC h
  have e1 := Aside0.mk (show wrap64 ((l.length : Int) - a) = l.length - a by unfold wrap64; omega)
  have hn : 0 ≤ wrap64 ((l.length : Int) - a) := by rw [e1.out]; omega
  have hln : a + wrap64 ((l.length : Int) - a) ≤ l.length := by rw [e1.out]; omega
  obtain ⟨ys, hys⟩ : ∃ ys, ys = l.drop a.toNat := ⟨_, rfl⟩
  have HY := Aside0.mk (show ys = (l.drop a.toNat).take (wrap64 ((l.length : Int) - a)).toNat by rw [hys, e1.out, List.take_of_length_le (by rw [List.length_drop]; omega)])
  have hyl : ys.length ≤ 1099511627776 := by rw [hys, List.length_drop]; omega
  rw [← hys]
  clear hys
  go_enter Tryd.func35, Tryd.ntmps35
  go_upto_region 3 with fail
  refine start_ (n := 14) (S := fun w' => w'.cell? ⟨B, 0, none⟩ = some (.slice A l.length cc) ∧ w'.cell? ⟨B, 1, none⟩ = some (.int .i64 a)) (ds := [11, 12]) #[false, false, false, false, false, false, false, false, false, false, false, false, false, false] (by kernel_rfl) rfl rfl ⟨x0, x1⟩ (fun hHeld => ?_)
  refine pure_ (i := 0) (N := some 8) (v := ?_) (a' := ?_) #[true, false, false, false, false, false, false, false, false, false, false, false, false, false] rfl rfl (by kernel_rfl) (fun _ _ _ h => h) (Or.inl ⟨by rfl, ?_⟩) ?_ ?_
  rotate_left
  · intro w'
    go_simp
    with_reducible rfl
  rotate_left
  · simp only [Act.put, List.setIfInBounds_toArray, List.set_cons_zero, List.set_cons_succ, i64_w, i32_w]
    rfl
  refine pure_ (i := 1) (N := some 9) (v := ?_) (a' := ?_) #[true, true, false, false, false, false, false, false, false, false, false, false, false, false] rfl rfl (by kernel_rfl) (fun _ _ _ h => h) (Or.inl ⟨by rfl, ?_⟩) ?_ ?_
  rotate_left
  · intro w'
    go_simp
    with_reducible rfl
  rotate_left
  · simp only [Act.put, List.setIfInBounds_toArray, List.set_cons_zero, List.set_cons_succ, i64_w, i32_w]
    rfl
  refine pure_ (i := 2) (N := some 10) (v := ?_) (a' := ?_) #[true, true, true, false, false, false, false, false, false, false, false, false, false, false] rfl rfl (by kernel_rfl) (fun _ _ _ h => h) (Or.inl ⟨by rfl, ?_⟩) ?_ ?_
  rotate_left
  · intro w'
    go_simp
    with_reducible rfl
  rotate_left
  · simp only [Act.put, List.setIfInBounds_toArray, List.set_cons_zero, List.set_cons_succ, i64_w, i32_w]
    rfl
  refine pure_ (i := 3) (N := some 11) (v := ?_) (a' := ?_) #[true, true, true, true, false, false, false, false, false, false, false, false, false, false] rfl rfl (by kernel_rfl) (fun _ _ _ h => h) (Or.inl ⟨by rfl, ?_⟩) ?_ ?_
  rotate_left
  · intro w'
    go_simp
    with_reducible rfl
  rotate_left
  · simp only [Act.put, List.setIfInBounds_toArray, List.set_cons_zero, List.set_cons_succ, i64_w, i32_w]
    rfl
  refine pure_ (i := 6) (N := some 14) (v := ?_) (a' := ?_) #[true, true, true, true, false, false, true, false, false, false, false, false, false, false] rfl rfl (by kernel_rfl) (fun _ _ _ h => h) (Or.inl ⟨by rfl, ?_⟩) ?_ ?_
  rotate_left
  · intro w'
    go_simp
    with_reducible rfl
  rotate_left
  · simp only [Act.put, List.setIfInBounds_toArray, List.set_cons_zero, List.set_cons_succ, i64_w, i32_w]
    rfl
  refine pure_ (i := 7) (N := some 15) (v := ?_) (a' := ?_) #[true, true, true, true, false, false, true, true, false, false, false, false, false, false] rfl rfl (by kernel_rfl) (fun _ _ _ h => h) (Or.inl ⟨by rfl, ?_⟩) ?_ ?_
  rotate_left
  · intro w'
    go_simp
    with_reducible rfl
  rotate_left
  · simp only [Act.put, List.setIfInBounds_toArray, List.set_cons_zero, List.set_cons_succ, i64_w, i32_w]
    rfl
  refine pure_ (i := 8) (N := some 16) (v := ?_) (a' := ?_) #[true, true, true, true, false, false, true, true, true, false, false, false, false, false] rfl rfl (by kernel_rfl) (fun _ _ _ h => h) (Or.inl ⟨by rfl, ?_⟩) ?_ ?_
  rotate_left
  · intro w'
    go_simp
    with_reducible rfl
  rotate_left
  · simp only [Act.put, List.setIfInBounds_toArray, List.set_cons_zero, List.set_cons_succ, i64_w, i32_w]
    rfl
  refine take_ (i := 4) (N := some 12) (v := ?_) (a' := ?_) #[true, true, true, true, true, false, true, true, true, false, false, false, false, false] rfl rfl (by kernel_rfl) (fun _ _ _ h => h) (Or.inl ⟨by rfl, ?_⟩) hHeld ?_ ?_
  rotate_left
  · rintro w' ⟨s0, s1⟩
    go_simp
    with_reducible rfl
  rotate_left
  · simp only [Act.put, List.setIfInBounds_toArray, List.set_cons_zero, List.set_cons_succ, i64_w, i32_w]
    rfl
  refine pure_ (i := 5) (N := some 13) (v := ?_) (a' := ?_) #[true, true, true, true, true, true, true, true, true, false, false, false, false, false] rfl rfl (by kernel_rfl) (fun _ _ _ h => h) (Or.inl ⟨by rfl, ?_⟩) ?_ ?_
  rotate_left
  · intro w'
    go_simp
    with_reducible rfl
  rotate_left
  · simp only [Act.put, List.setIfInBounds_toArray, List.set_cons_zero, List.set_cons_succ, i64_w, i32_w]
    rfl
  refine take_ (i := 9) (N := some 17) (v := ?_) (a' := ?_) #[true, true, true, true, true, true, true, true, true, true, false, false, false, false] rfl rfl (by kernel_rfl) (fun _ _ _ h => h) (Or.inl ⟨by rfl, ?_⟩) hHeld ?_ ?_
  rotate_left
  · rintro w' ⟨s0, s1⟩
    go_simp
    with_reducible rfl
  rotate_left
  · simp only [Act.put, List.setIfInBounds_toArray, List.set_cons_zero, List.set_cons_succ, i64_w, i32_w]
    rfl
  refine pure_ (i := 10) (N := some 18) (v := ?_) (a' := ?_) #[true, true, true, true, true, true, true, true, true, true, true, false, false, false] rfl rfl (by kernel_rfl) (fun _ _ _ h => h) (Or.inl ⟨by rfl, ?_⟩) ?_ ?_
  rotate_left
  · intro w'
    go_simp
    with_reducible rfl
  rotate_left
  · simp only [Act.put, List.setIfInBounds_toArray, List.set_cons_zero, List.set_cons_succ, i64_w, i32_w]
    rfl
  refine last_ (i := 11) (N := some 19) #[true, true, true, true, true, true, true, true, true, true, true, true, false, false] rfl rfl (by kernel_rfl) (by decide) (fun K hK => ?_)
  refine goes_ Tryd.func51 (by kernel_rfl) rfl #[.pointer (some ⟨B, 0, none⟩), .int .i64 (wrap64 (l.length - a))] (by rfl) rfl rfl (by simp only [List.map_toArray, List.map_cons, List.map_nil]; rfl) ?_
  with_reducible refine (take_ok HD.out hn hln ys HY.out).mono ?_
  rintro e w3 ⟨A3, c3, rfl, hc3, hC, hR, hF⟩
  refine ⟨_, rfl, ?_⟩
  refine hK.out _ _ ?_
  clear hK K
  refine norm_ (a' := ?_) ?_ ?_
  rotate_left
  · show Act.put _ (some 19) _ = _
    simp only [Act.put, List.setIfInBounds_toArray, List.set_cons_zero, List.set_cons_succ, i64_w, i32_w]
    rfl
  refine last_ (i := 12) (N := some 20) #[true, true, true, true, true, true, true, true, true, true, true, true, true, false] rfl rfl (by kernel_rfl) (by decide) (fun K hK => ?_)
  refine goes_ Tryd.func28 (by kernel_rfl) rfl #[.slice A3 ys.length c3] (by rfl) rfl rfl (by simp only [List.map_toArray, List.map_cons, List.map_nil]; rfl) ?_
  with_reducible refine (own_any ys A3 c3 _ hC hyl).mono ?_
  rintro e w4 ⟨v, rfl, hR4, hB4⟩
  refine ⟨_, rfl, ?_⟩
  refine hK.out _ _ ?_
  clear hK K
  refine norm_ (a' := ?_) ?_ ?_
  rotate_left
  · show Act.put _ (some 20) _ = _
    simp only [Act.put, List.setIfInBounds_toArray, List.set_cons_zero, List.set_cons_succ, i64_w, i32_w]
    rfl
  refine pure_ (i := 13) (N := some 2) (v := ?_) (a' := ?_) #[true, true, true, true, true, true, true, true, true, true, true, true, true, true] rfl rfl (by kernel_rfl) (fun _ _ _ h => h) (Or.inl ⟨by rfl, ?_⟩) ?_ ?_
  rotate_left
  · intro w'
    go_simp
    with_reducible rfl
  rotate_left
  · simp only [Act.put, List.setIfInBounds_toArray, List.set_cons_zero, List.set_cons_succ, i64_w, i32_w]
    rfl
  refine done_ (by kernel_rfl) ?_
  have HF := Aside0.mk hF
  have HR := Aside0.mk hR
  have HR4 := Aside0.mk hR4
  have HB4 := Aside0.mk hB4
  clear hF hR hR4 hB4 hC
  go_wp2
  go_ret
  have e2 : a + wrap64 ((l.length : Int) - a) = l.length := by rw [e1.out]; omega
  have hr := HR.out
  rw [e2] at hr
  exact ⟨v, rfl, Kd.R_lower HR4.out (by have := HF.out.size; simpa using this), hr.below HB4.out, ((Fr.refl (fun k => k = B) w).drew.trans HF.out (fun _ _ h => h)).trans (Fr.of_below (fun _ => False) HB4.out) (fun _ _ e => e.elim)⟩
theorem rest_any {w : World} {base B : Nat} {l : List Int} {a : Int} {f : Option (Int × Int)} (h : RdIs w base B l a f) :
    Calls Tryd.prog 35 #[.pointer (some ⟨B, 0, none⟩)] w fun e w' => ∃ v, e = .returned v ∧ (Kd.int .u8).R 5 w' w.heap.size (fun _ => True) v (rRest l a f).v ∧ RdIs w' base B l (rRest l a f).a (rRest l a f).f ∧ Fr (fun k => k = B) w w' := by
  unfold rRest
  cases f with
  | some pc => exact (rest_err h).mono fun e w' ⟨h1, h2⟩ => by subst h2; exact ⟨_, h1, Kd.R_nil _ _ _ _ _, h, Fr.refl _ _⟩
  | none => rw [if_neg (by simp)]; exact rest_ok h
theorem end_some {w : World} {base B : Nat} {l : List Int} {a : Int} {pc : Int × Int} (h : RdIs w base B l a (some pc)) :
    Calls Tryd.prog 32 #[.pointer (some ⟨B, 0, none⟩)] w fun e w' => e = .returned (.tuple #[]) ∧ RdIs w' base B l a (some pc) ∧ Fr (fun k => k = B) w w' := by
  have HH := Aside0.mk h
  obtain ⟨A, cc, ev, hc, x0, x1, x2, ⟨F, rfl, hF, hbF⟩, xf, hC⟩ := h.cells
  clear hC h hF x0 x1
  go_enter Tryd.func32, Tryd.ntmps32
  go_upto_region 0 with fail
  refine start_ (n := 17) (S := fun w' => w'.cell? ⟨B, 2, none⟩ = some (.pointer (some ⟨F, 0, none⟩))) (ds := []) #[false, false, false, false, false, false, false, false, false, false, false, false, false, false, false, false, false] (by kernel_rfl) rfl rfl (x2) (fun hHeld => ?_)
  refine pure_ (i := 0) (N := some 2) (v := ?_) (a' := ?_) #[true, false, false, false, false, false, false, false, false, false, false, false, false, false, false, false, false] rfl rfl (by kernel_rfl) (fun _ _ _ h => h) (Or.inl ⟨by rfl, ?_⟩) ?_ ?_
  rotate_left
  · intro w'
    go_simp
    with_reducible rfl
  rotate_left
  · simp only [Act.put, List.setIfInBounds_toArray, List.set_cons_zero, List.set_cons_succ, i64_w, i32_w]
    rfl
  refine pure_ (i := 1) (N := some 3) (v := ?_) (a' := ?_) #[true, true, false, false, false, false, false, false, false, false, false, false, false, false, false, false, false] rfl rfl (by kernel_rfl) (fun _ _ _ h => h) (Or.inl ⟨by rfl, ?_⟩) ?_ ?_
  rotate_left
  · intro w'
    go_simp
    with_reducible rfl
  rotate_left
  · simp only [Act.put, List.setIfInBounds_toArray, List.set_cons_zero, List.set_cons_succ, i64_w, i32_w]
    rfl
  refine pure_ (i := 2) (N := some 4) (v := ?_) (a' := ?_) #[true, true, true, false, false, false, false, false, false, false, false, false, false, false, false, false, false] rfl rfl (by kernel_rfl) (fun _ _ _ h => h) (Or.inl ⟨by rfl, ?_⟩) ?_ ?_
  rotate_left
  · intro w'
    go_simp
    with_reducible rfl
  rotate_left
  · simp only [Act.put, List.setIfInBounds_toArray, List.set_cons_zero, List.set_cons_succ, i64_w, i32_w]
    rfl
  refine take_ (i := 3) (N := some 5) (v := ?_) (a' := ?_) #[true, true, true, true, false, false, false, false, false, false, false, false, false, false, false, false, false] rfl rfl (by kernel_rfl) (fun _ _ _ h => h) (Or.inl ⟨by rfl, ?_⟩) hHeld ?_ ?_
  rotate_left
  · intro w' s0
    go_simp
    with_reducible rfl
  rotate_left
  · simp only [Act.put, List.setIfInBounds_toArray, List.set_cons_zero, List.set_cons_succ, i64_w, i32_w]
    rfl
  refine pure_ (i := 4) (N := some 6) (v := ?_) (a' := ?_) #[true, true, true, true, true, false, false, false, false, false, false, false, false, false, false, false, false] rfl rfl (by kernel_rfl) (fun _ _ _ h => h) (Or.inl ⟨by rfl, ?_⟩) ?_ ?_
  rotate_left
  · intro w'
    go_simp
    with_reducible rfl
  rotate_left
  · simp only [Act.put, List.setIfInBounds_toArray, List.set_cons_zero, List.set_cons_succ, i64_w, i32_w]
    rfl
  refine pure_ (i := 5) (N := some 7) (v := ?_) (a' := ?_) #[true, true, true, true, true, true, false, false, false, false, false, false, false, false, false, false, false] rfl rfl (by kernel_rfl) (fun _ _ _ h => h) (Or.inl ⟨by rfl, ?_⟩) ?_ ?_
  rotate_left
  · intro w'
    go_simp
    with_reducible rfl
  rotate_left
  · simp only [Act.put, List.setIfInBounds_toArray, List.set_cons_zero, List.set_cons_succ, i64_w, i32_w]
    rfl
  refine pure_ (i := 6) (N := some 8) (v := undef) (a' := ?_) #[true, true, true, true, true, true, true, false, false, false, false, false, false, false, false, false, false] rfl rfl (by kernel_rfl) (fun _ _ _ h => h) (Or.inr ⟨by rfl, rfl⟩) ?_ ?_
  rotate_left
  · simp only [Act.put, List.setIfInBounds_toArray, List.set_cons_zero, List.set_cons_succ, i64_w, i32_w]
    rfl
  refine pure_ (i := 7) (N := some 9) (v := undef) (a' := ?_) #[true, true, true, true, true, true, true, true, false, false, false, false, false, false, false, false, false] rfl rfl (by kernel_rfl) (fun _ _ _ h => h) (Or.inr ⟨by rfl, rfl⟩) ?_ ?_
  rotate_left
  · simp only [Act.put, List.setIfInBounds_toArray, List.set_cons_zero, List.set_cons_succ, i64_w, i32_w]
    rfl
  refine pure_ (i := 8) (N := some 10) (v := undef) (a' := ?_) #[true, true, true, true, true, true, true, true, true, false, false, false, false, false, false, false, false] rfl rfl (by kernel_rfl) (fun _ _ _ h => h) (Or.inr ⟨by rfl, rfl⟩) ?_ ?_
  rotate_left
  · simp only [Act.put, List.setIfInBounds_toArray, List.set_cons_zero, List.set_cons_succ, i64_w, i32_w]
    rfl
  refine pure_ (i := 9) (N := some 11) (v := undef) (a' := ?_) #[true, true, true, true, true, true, true, true, true, true, false, false, false, false, false, false, false] rfl rfl (by kernel_rfl) (fun _ _ _ h => h) (Or.inr ⟨by rfl, rfl⟩) ?_ ?_
  rotate_left
  · simp only [Act.put, List.setIfInBounds_toArray, List.set_cons_zero, List.set_cons_succ, i64_w, i32_w]
    rfl
  refine pure_ (i := 10) (N := some 12) (v := undef) (a' := ?_) #[true, true, true, true, true, true, true, true, true, true, true, false, false, false, false, false, false] rfl rfl (by kernel_rfl) (fun _ _ _ h => h) (Or.inr ⟨by rfl, rfl⟩) ?_ ?_
  rotate_left
  · simp only [Act.put, List.setIfInBounds_toArray, List.set_cons_zero, List.set_cons_succ, i64_w, i32_w]
    rfl
  refine pure_ (i := 11) (N := some 13) (v := undef) (a' := ?_) #[true, true, true, true, true, true, true, true, true, true, true, true, false, false, false, false, false] rfl rfl (by kernel_rfl) (fun _ _ _ h => h) (Or.inr ⟨by rfl, rfl⟩) ?_ ?_
  rotate_left
  · simp only [Act.put, List.setIfInBounds_toArray, List.set_cons_zero, List.set_cons_succ, i64_w, i32_w]
    rfl
  refine pure_ (i := 12) (N := some 14) (v := undef) (a' := ?_) #[true, true, true, true, true, true, true, true, true, true, true, true, true, false, false, false, false] rfl rfl (by kernel_rfl) (fun _ _ _ h => h) (Or.inr ⟨by rfl, rfl⟩) ?_ ?_
  rotate_left
  · simp only [Act.put, List.setIfInBounds_toArray, List.set_cons_zero, List.set_cons_succ, i64_w, i32_w]
    rfl
  refine pure_ (i := 13) (N := some 15) (v := undef) (a' := ?_) #[true, true, true, true, true, true, true, true, true, true, true, true, true, true, false, false, false] rfl rfl (by kernel_rfl) (fun _ _ _ h => h) (Or.inr ⟨by rfl, rfl⟩) ?_ ?_
  rotate_left
  · simp only [Act.put, List.setIfInBounds_toArray, List.set_cons_zero, List.set_cons_succ, i64_w, i32_w]
    rfl
  refine pure_ (i := 14) (N := some 16) (v := undef) (a' := ?_) #[true, true, true, true, true, true, true, true, true, true, true, true, true, true, true, false, false] rfl rfl (by kernel_rfl) (fun _ _ _ h => h) (Or.inr ⟨by rfl, rfl⟩) ?_ ?_
  rotate_left
  · simp only [Act.put, List.setIfInBounds_toArray, List.set_cons_zero, List.set_cons_succ, i64_w, i32_w]
    rfl
  refine pure_ (i := 15) (N := some 17) (v := undef) (a' := ?_) #[true, true, true, true, true, true, true, true, true, true, true, true, true, true, true, true, false] rfl rfl (by kernel_rfl) (fun _ _ _ h => h) (Or.inr ⟨by rfl, rfl⟩) ?_ ?_
  rotate_left
  · simp only [Act.put, List.setIfInBounds_toArray, List.set_cons_zero, List.set_cons_succ, i64_w, i32_w]
    rfl
  refine pure_ (i := 16) (N := some 18) (v := ?_) (a' := ?_) #[true, true, true, true, true, true, true, true, true, true, true, true, true, true, true, true, true] rfl rfl (by kernel_rfl) (fun _ _ _ h => h) (Or.inl ⟨by rfl, ?_⟩) ?_ ?_
  rotate_left
  · intro w'
    go_simp
    with_reducible rfl
  rotate_left
  · simp only [Act.put, List.setIfInBounds_toArray, List.set_cons_zero, List.set_cons_succ, i64_w, i32_w]
    rfl
  refine done_ (by kernel_rfl) ?_
  go_wp2
  go_end0
  exact ⟨rfl, HH.out.below (below_drew1 (Below.refl _ _)), (Fr.refl _ _).drew⟩
theorem end_full {w : World} {base B : Nat} {l : List Int} {a : Int} (h : RdIs w base B l a none) (hl : ¬ a < l.length) :
    Calls Tryd.prog 32 #[.pointer (some ⟨B, 0, none⟩)] w fun e w' => e = .returned (.tuple #[]) ∧ RdIs w' base B l a none ∧ Fr (fun k => k = B) w w' := by
  have HH := Aside0.mk h
  obtain ⟨A, cc, ev, hc, x0, x1, x2, rfl, xf, hC⟩ := h.cells
  clear hC h
  have hl' : decide (a < (l.length : Int)) = false := decide_eq_false hl
  go_enter Tryd.func32, Tryd.ntmps32
  go_upto_region 0 with fail
  refine start_ (n := 17) (S := fun w' => w'.cell? ⟨B, 0, none⟩ = some (.slice A l.length cc) ∧ w'.cell? ⟨B, 1, none⟩ = some (.int .i64 a) ∧ w'.cell? ⟨B, 2, none⟩ = some (.pointer none)) (ds := []) #[false, false, false, false, false, false, false, false, false, false, false, false, false, false, false, false, false] (by kernel_rfl) rfl rfl ⟨x0, x1, x2⟩ (fun hHeld => ?_)
  refine pure_ (i := 0) (N := some 2) (v := ?_) (a' := ?_) #[true, false, false, false, false, false, false, false, false, false, false, false, false, false, false, false, false] rfl rfl (by kernel_rfl) (fun _ _ _ h => h) (Or.inl ⟨by rfl, ?_⟩) ?_ ?_
  rotate_left
  · intro w'
    go_simp
    with_reducible rfl
  rotate_left
  · simp only [Act.put, List.setIfInBounds_toArray, List.set_cons_zero, List.set_cons_succ, i64_w, i32_w]
    rfl
  refine pure_ (i := 1) (N := some 3) (v := ?_) (a' := ?_) #[true, true, false, false, false, false, false, false, false, false, false, false, false, false, false, false, false] rfl rfl (by kernel_rfl) (fun _ _ _ h => h) (Or.inl ⟨by rfl, ?_⟩) ?_ ?_
  rotate_left
  · intro w'
    go_simp
    with_reducible rfl
  rotate_left
  · simp only [Act.put, List.setIfInBounds_toArray, List.set_cons_zero, List.set_cons_succ, i64_w, i32_w]
    rfl
  refine pure_ (i := 2) (N := some 4) (v := ?_) (a' := ?_) #[true, true, true, false, false, false, false, false, false, false, false, false, false, false, false, false, false] rfl rfl (by kernel_rfl) (fun _ _ _ h => h) (Or.inl ⟨by rfl, ?_⟩) ?_ ?_
  rotate_left
  · intro w'
    go_simp
    with_reducible rfl
  rotate_left
  · simp only [Act.put, List.setIfInBounds_toArray, List.set_cons_zero, List.set_cons_succ, i64_w, i32_w]
    rfl
  refine take_ (i := 3) (N := some 5) (v := ?_) (a' := ?_) #[true, true, true, true, false, false, false, false, false, false, false, false, false, false, false, false, false] rfl rfl (by kernel_rfl) (fun _ _ _ h => h) (Or.inl ⟨by rfl, ?_⟩) hHeld ?_ ?_
  rotate_left
  · rintro w' ⟨s0, s1, s2⟩
    go_simp
    with_reducible rfl
  rotate_left
  · simp only [Act.put, List.setIfInBounds_toArray, List.set_cons_zero, List.set_cons_succ, i64_w, i32_w]
    rfl
  refine pure_ (i := 4) (N := some 6) (v := ?_) (a' := ?_) #[true, true, true, true, true, false, false, false, false, false, false, false, false, false, false, false, false] rfl rfl (by kernel_rfl) (fun _ _ _ h => h) (Or.inl ⟨by rfl, ?_⟩) ?_ ?_
  rotate_left
  · intro w'
    go_simp
    with_reducible rfl
  rotate_left
  · simp only [Act.put, List.setIfInBounds_toArray, List.set_cons_zero, List.set_cons_succ, i64_w, i32_w]
    rfl
  refine pure_ (i := 5) (N := some 7) (v := ?_) (a' := ?_) #[true, true, true, true, true, true, false, false, false, false, false, false, false, false, false, false, false] rfl rfl (by kernel_rfl) (fun _ _ _ h => h) (Or.inl ⟨by rfl, ?_⟩) ?_ ?_
  rotate_left
  · intro w'
    go_simp
    with_reducible rfl
  rotate_left
  · simp only [Act.put, List.setIfInBounds_toArray, List.set_cons_zero, List.set_cons_succ, i64_w, i32_w]
    rfl
  refine pure_ (i := 6) (N := some 8) (v := ?_) (a' := ?_) #[true, true, true, true, true, true, true, false, false, false, false, false, false, false, false, false, false] rfl rfl (by kernel_rfl) (fun _ _ _ h => h) (Or.inl ⟨by rfl, ?_⟩) ?_ ?_
  rotate_left
  · intro w'
    go_simp
    with_reducible rfl
  rotate_left
  · simp only [Act.put, List.setIfInBounds_toArray, List.set_cons_zero, List.set_cons_succ, i64_w, i32_w]
    rfl
  refine pure_ (i := 7) (N := some 9) (v := ?_) (a' := ?_) #[true, true, true, true, true, true, true, true, false, false, false, false, false, false, false, false, false] rfl rfl (by kernel_rfl) (fun _ _ _ h => h) (Or.inl ⟨by rfl, ?_⟩) ?_ ?_
  rotate_left
  · intro w'
    go_simp
    with_reducible rfl
  rotate_left
  · simp only [Act.put, List.setIfInBounds_toArray, List.set_cons_zero, List.set_cons_succ, i64_w, i32_w]
    rfl
  refine pure_ (i := 8) (N := some 10) (v := ?_) (a' := ?_) #[true, true, true, true, true, true, true, true, true, false, false, false, false, false, false, false, false] rfl rfl (by kernel_rfl) (fun _ _ _ h => h) (Or.inl ⟨by rfl, ?_⟩) ?_ ?_
  rotate_left
  · intro w'
    go_simp
    with_reducible rfl
  rotate_left
  · simp only [Act.put, List.setIfInBounds_toArray, List.set_cons_zero, List.set_cons_succ, i64_w, i32_w]
    rfl
  refine pure_ (i := 10) (N := some 12) (v := ?_) (a' := ?_) #[true, true, true, true, true, true, true, true, true, false, true, false, false, false, false, false, false] rfl rfl (by kernel_rfl) (fun _ _ _ h => h) (Or.inl ⟨by rfl, ?_⟩) ?_ ?_
  rotate_left
  · intro w'
    go_simp
    with_reducible rfl
  rotate_left
  · simp only [Act.put, List.setIfInBounds_toArray, List.set_cons_zero, List.set_cons_succ, i64_w, i32_w]
    rfl
  refine pure_ (i := 11) (N := some 13) (v := ?_) (a' := ?_) #[true, true, true, true, true, true, true, true, true, false, true, true, false, false, false, false, false] rfl rfl (by kernel_rfl) (fun _ _ _ h => h) (Or.inl ⟨by rfl, ?_⟩) ?_ ?_
  rotate_left
  · intro w'
    go_simp
    with_reducible rfl
  rotate_left
  · simp only [Act.put, List.setIfInBounds_toArray, List.set_cons_zero, List.set_cons_succ, i64_w, i32_w]
    rfl
  refine pure_ (i := 12) (N := some 14) (v := ?_) (a' := ?_) #[true, true, true, true, true, true, true, true, true, false, true, true, true, false, false, false, false] rfl rfl (by kernel_rfl) (fun _ _ _ h => h) (Or.inl ⟨by rfl, ?_⟩) ?_ ?_
  rotate_left
  · intro w'
    go_simp
    with_reducible rfl
  rotate_left
  · simp only [Act.put, List.setIfInBounds_toArray, List.set_cons_zero, List.set_cons_succ, i64_w, i32_w]
    rfl
  refine take_ (i := 9) (N := some 11) (v := ?_) (a' := ?_) #[true, true, true, true, true, true, true, true, true, true, true, true, true, false, false, false, false] rfl rfl (by kernel_rfl) (fun _ _ _ h => h) (Or.inl ⟨by rfl, ?_⟩) hHeld ?_ ?_
  rotate_left
  · rintro w' ⟨s0, s1, s2⟩
    go_simp
    with_reducible rfl
  rotate_left
  · simp only [Act.put, List.setIfInBounds_toArray, List.set_cons_zero, List.set_cons_succ, i64_w, i32_w]
    rfl
  refine take_ (i := 13) (N := some 15) (v := ?_) (a' := ?_) #[true, true, true, true, true, true, true, true, true, true, true, true, true, true, false, false, false] rfl rfl (by kernel_rfl) (fun _ _ _ h => h) (Or.inl ⟨by rfl, ?_⟩) hHeld ?_ ?_
  rotate_left
  · rintro w' ⟨s0, s1, s2⟩
    go_simp
    with_reducible rfl
  rotate_left
  · simp only [Act.put, List.setIfInBounds_toArray, List.set_cons_zero, List.set_cons_succ, i64_w, i32_w]
    rfl
  refine pure_ (i := 14) (N := some 16) (v := ?_) (a' := ?_) #[true, true, true, true, true, true, true, true, true, true, true, true, true, true, true, false, false] rfl rfl (by kernel_rfl) (fun _ _ _ h => h) (Or.inl ⟨by rfl, ?_⟩) ?_ ?_
  rotate_left
  · intro w'
    go_simp
    with_reducible rfl
  rotate_left
  · simp only [Act.put, List.setIfInBounds_toArray, List.set_cons_zero, List.set_cons_succ, i64_w, i32_w]
    rfl
  refine pure_ (i := 15) (N := some 17) (v := ?_) (a' := ?_) #[true, true, true, true, true, true, true, true, true, true, true, true, true, true, true, true, false] rfl rfl (by kernel_rfl) (fun _ _ _ h => h) (Or.inl ⟨by rfl, ?_⟩) ?_ ?_
  rotate_left
  · intro w'
    go_simp
    with_reducible rfl
  rotate_left
  · simp only [Act.put, List.setIfInBounds_toArray, List.set_cons_zero, List.set_cons_succ, i64_w, i32_w]
    rfl
  refine pure_ (i := 16) (N := some 18) (v := ?_) (a' := ?_) #[true, true, true, true, true, true, true, true, true, true, true, true, true, true, true, true, true] rfl rfl (by kernel_rfl) (fun _ _ _ h => h) (Or.inl ⟨by rfl, ?_⟩) ?_ ?_
  rotate_left
  · intro w'
    go_simp
    with_reducible rfl
  rotate_left
  · simp only [Act.put, List.setIfInBounds_toArray, List.set_cons_zero, List.set_cons_succ, i64_w, i32_w]
    rfl
  refine done_ (by kernel_rfl) ?_
  go_wp2
  go_end0
  exact ⟨rfl, HH.out.below (below_drew1 (Below.refl _ _)), (Fr.refl _ _).drew⟩
theorem end_left {w : World} {base B : Nat} {l : List Int} {a : Int} (h : RdIs w base B l a none) (hl : a < l.length) :
    Calls Tryd.prog 32 #[.pointer (some ⟨B, 0, none⟩)] w fun e w' => e = .returned (.tuple #[]) ∧ RdIs w' base B l a (some (a, 15)) ∧ Fr (fun k => k = B) w w' := by
  have HH := Aside0.mk h
  obtain ⟨A, cc, ev, hc, x0, x1, x2, rfl, xf, hC⟩ := h.cells
  clear hC h
  have hb : B < w.heap.size := HH.out.lt
  have z2 : (w.alloc (.cells #[.int .i64 a, .int .i64 15] 61)).cell? ⟨B, 2, none⟩ = some (.pointer none) := (World.cell?_alloc_past _ _ _ hb).trans x2
  have zf : (w.alloc (.cells #[.int .i64 a, .int .i64 15] 61)).frozen? ⟨B, 2, none⟩ = false := by rw [World.frozen?_alloc_old _ _ _ (Nat.ne_of_lt hb)]; exact xf 2
  have hl' : decide (a < (l.length : Int)) = true := decide_eq_true hl
  go_enter Tryd.func32, Tryd.ntmps32
  go_upto_region 0 with fail
  refine start_ (n := 17) (S := fun w' => w'.cell? ⟨B, 0, none⟩ = some (.slice A l.length cc) ∧ w'.cell? ⟨B, 1, none⟩ = some (.int .i64 a) ∧ w'.cell? ⟨B, 2, none⟩ = some (.pointer none)) (ds := []) #[false, false, false, false, false, false, false, false, false, false, false, false, false, false, false, false, false] (by kernel_rfl) rfl rfl ⟨x0, x1, x2⟩ (fun hHeld => ?_)
  refine pure_ (i := 0) (N := some 2) (v := ?_) (a' := ?_) #[true, false, false, false, false, false, false, false, false, false, false, false, false, false, false, false, false] rfl rfl (by kernel_rfl) (fun _ _ _ h => h) (Or.inl ⟨by rfl, ?_⟩) ?_ ?_
  rotate_left
  · intro w'
    go_simp
    with_reducible rfl
  rotate_left
  · simp only [Act.put, List.setIfInBounds_toArray, List.set_cons_zero, List.set_cons_succ, i64_w, i32_w]
    rfl
  refine pure_ (i := 1) (N := some 3) (v := ?_) (a' := ?_) #[true, true, false, false, false, false, false, false, false, false, false, false, false, false, false, false, false] rfl rfl (by kernel_rfl) (fun _ _ _ h => h) (Or.inl ⟨by rfl, ?_⟩) ?_ ?_
  rotate_left
  · intro w'
    go_simp
    with_reducible rfl
  rotate_left
  · simp only [Act.put, List.setIfInBounds_toArray, List.set_cons_zero, List.set_cons_succ, i64_w, i32_w]
    rfl
  refine pure_ (i := 2) (N := some 4) (v := ?_) (a' := ?_) #[true, true, true, false, false, false, false, false, false, false, false, false, false, false, false, false, false] rfl rfl (by kernel_rfl) (fun _ _ _ h => h) (Or.inl ⟨by rfl, ?_⟩) ?_ ?_
  rotate_left
  · intro w'
    go_simp
    with_reducible rfl
  rotate_left
  · simp only [Act.put, List.setIfInBounds_toArray, List.set_cons_zero, List.set_cons_succ, i64_w, i32_w]
    rfl
  refine take_ (i := 3) (N := some 5) (v := ?_) (a' := ?_) #[true, true, true, true, false, false, false, false, false, false, false, false, false, false, false, false, false] rfl rfl (by kernel_rfl) (fun _ _ _ h => h) (Or.inl ⟨by rfl, ?_⟩) hHeld ?_ ?_
  rotate_left
  · rintro w' ⟨s0, s1, s2⟩
    go_simp
    with_reducible rfl
  rotate_left
  · simp only [Act.put, List.setIfInBounds_toArray, List.set_cons_zero, List.set_cons_succ, i64_w, i32_w]
    rfl
  refine pure_ (i := 4) (N := some 6) (v := ?_) (a' := ?_) #[true, true, true, true, true, false, false, false, false, false, false, false, false, false, false, false, false] rfl rfl (by kernel_rfl) (fun _ _ _ h => h) (Or.inl ⟨by rfl, ?_⟩) ?_ ?_
  rotate_left
  · intro w'
    go_simp
    with_reducible rfl
  rotate_left
  · simp only [Act.put, List.setIfInBounds_toArray, List.set_cons_zero, List.set_cons_succ, i64_w, i32_w]
    rfl
  refine pure_ (i := 5) (N := some 7) (v := ?_) (a' := ?_) #[true, true, true, true, true, true, false, false, false, false, false, false, false, false, false, false, false] rfl rfl (by kernel_rfl) (fun _ _ _ h => h) (Or.inl ⟨by rfl, ?_⟩) ?_ ?_
  rotate_left
  · intro w'
    go_simp
    with_reducible rfl
  rotate_left
  · simp only [Act.put, List.setIfInBounds_toArray, List.set_cons_zero, List.set_cons_succ, i64_w, i32_w]
    rfl
  refine pure_ (i := 6) (N := some 8) (v := ?_) (a' := ?_) #[true, true, true, true, true, true, true, false, false, false, false, false, false, false, false, false, false] rfl rfl (by kernel_rfl) (fun _ _ _ h => h) (Or.inl ⟨by rfl, ?_⟩) ?_ ?_
  rotate_left
  · intro w'
    go_simp
    with_reducible rfl
  rotate_left
  · simp only [Act.put, List.setIfInBounds_toArray, List.set_cons_zero, List.set_cons_succ, i64_w, i32_w]
    rfl
  refine pure_ (i := 7) (N := some 9) (v := ?_) (a' := ?_) #[true, true, true, true, true, true, true, true, false, false, false, false, false, false, false, false, false] rfl rfl (by kernel_rfl) (fun _ _ _ h => h) (Or.inl ⟨by rfl, ?_⟩) ?_ ?_
  rotate_left
  · intro w'
    go_simp
    with_reducible rfl
  rotate_left
  · simp only [Act.put, List.setIfInBounds_toArray, List.set_cons_zero, List.set_cons_succ, i64_w, i32_w]
    rfl
  refine pure_ (i := 8) (N := some 10) (v := ?_) (a' := ?_) #[true, true, true, true, true, true, true, true, true, false, false, false, false, false, false, false, false] rfl rfl (by kernel_rfl) (fun _ _ _ h => h) (Or.inl ⟨by rfl, ?_⟩) ?_ ?_
  rotate_left
  · intro w'
    go_simp
    with_reducible rfl
  rotate_left
  · simp only [Act.put, List.setIfInBounds_toArray, List.set_cons_zero, List.set_cons_succ, i64_w, i32_w]
    rfl
  refine pure_ (i := 10) (N := some 12) (v := ?_) (a' := ?_) #[true, true, true, true, true, true, true, true, true, false, true, false, false, false, false, false, false] rfl rfl (by kernel_rfl) (fun _ _ _ h => h) (Or.inl ⟨by rfl, ?_⟩) ?_ ?_
  rotate_left
  · intro w'
    go_simp
    with_reducible rfl
  rotate_left
  · simp only [Act.put, List.setIfInBounds_toArray, List.set_cons_zero, List.set_cons_succ, i64_w, i32_w]
    rfl
  refine pure_ (i := 11) (N := some 13) (v := ?_) (a' := ?_) #[true, true, true, true, true, true, true, true, true, false, true, true, false, false, false, false, false] rfl rfl (by kernel_rfl) (fun _ _ _ h => h) (Or.inl ⟨by rfl, ?_⟩) ?_ ?_
  rotate_left
  · intro w'
    go_simp
    with_reducible rfl
  rotate_left
  · simp only [Act.put, List.setIfInBounds_toArray, List.set_cons_zero, List.set_cons_succ, i64_w, i32_w]
    rfl
  refine pure_ (i := 12) (N := some 14) (v := ?_) (a' := ?_) #[true, true, true, true, true, true, true, true, true, false, true, true, true, false, false, false, false] rfl rfl (by kernel_rfl) (fun _ _ _ h => h) (Or.inl ⟨by rfl, ?_⟩) ?_ ?_
  rotate_left
  · intro w'
    go_simp
    with_reducible rfl
  rotate_left
  · simp only [Act.put, List.setIfInBounds_toArray, List.set_cons_zero, List.set_cons_succ, i64_w, i32_w]
    rfl
  refine take_ (i := 9) (N := some 11) (v := ?_) (a' := ?_) #[true, true, true, true, true, true, true, true, true, true, true, true, true, false, false, false, false] rfl rfl (by kernel_rfl) (fun _ _ _ h => h) (Or.inl ⟨by rfl, ?_⟩) hHeld ?_ ?_
  rotate_left
  · rintro w' ⟨s0, s1, s2⟩
    go_simp
    with_reducible rfl
  rotate_left
  · simp only [Act.put, List.setIfInBounds_toArray, List.set_cons_zero, List.set_cons_succ, i64_w, i32_w]
    rfl
  refine take_ (i := 13) (N := some 15) (v := ?_) (a' := ?_) #[true, true, true, true, true, true, true, true, true, true, true, true, true, true, false, false, false] rfl rfl (by kernel_rfl) (fun _ _ _ h => h) (Or.inl ⟨by rfl, ?_⟩) hHeld ?_ ?_
  rotate_left
  · rintro w' ⟨s0, s1, s2⟩
    go_simp
    with_reducible rfl
  rotate_left
  · simp only [Act.put, List.setIfInBounds_toArray, List.set_cons_zero, List.set_cons_succ, i64_w, i32_w]
    rfl
  refine pure_ (i := 14) (N := some 16) (v := ?_) (a' := ?_) #[true, true, true, true, true, true, true, true, true, true, true, true, true, true, true, false, false] rfl rfl (by kernel_rfl) (fun _ _ _ h => h) (Or.inl ⟨by rfl, ?_⟩) ?_ ?_
  rotate_left
  · intro w'
    go_simp
    with_reducible rfl
  rotate_left
  · simp only [Act.put, List.setIfInBounds_toArray, List.set_cons_zero, List.set_cons_succ, i64_w, i32_w]
    rfl
  refine pure_ (i := 15) (N := some 17) (v := ?_) (a' := ?_) #[true, true, true, true, true, true, true, true, true, true, true, true, true, true, true, true, false] rfl rfl (by kernel_rfl) (fun _ _ _ h => h) (Or.inl ⟨by rfl, ?_⟩) ?_ ?_
  rotate_left
  · intro w'
    go_simp
    with_reducible rfl
  rotate_left
  · simp only [Act.put, List.setIfInBounds_toArray, List.set_cons_zero, List.set_cons_succ, i64_w, i32_w]
    rfl
  refine pure_ (i := 16) (N := some 18) (v := ?_) (a' := ?_) #[true, true, true, true, true, true, true, true, true, true, true, true, true, true, true, true, true] rfl rfl (by kernel_rfl) (fun _ _ _ h => h) (Or.inl ⟨by rfl, ?_⟩) ?_ ?_
  rotate_left
  · intro w'
    go_simp
    with_reducible rfl
  rotate_left
  · simp only [Act.put, List.setIfInBounds_toArray, List.set_cons_zero, List.set_cons_succ, i64_w, i32_w]
    rfl
  refine done_ (by kernel_rfl) ?_
  clear x0 x2 hHeld
  go_wp2
  go_end0
  refine ⟨rfl, ?_, ?_⟩
  · have h2 := HH.out.below (below_drew1 (below_alloc (Below.refl w.heap.size w) (.cells #[.int .i64 a, .int .i64 15] 61)))
    have h3 := h2.setErr (u := .pointer (some ⟨w.heap.size, 0, none⟩)) (f2 := some (a, 15)) ⟨w.heap.size, rfl, heap_alloc_new w (.cells #[.int .i64 a, .int .i64 15] 61), by have := HH.out.ge; omega⟩
    have e : (w.alloc (.cells #[.int .i64 a, .int .i64 15] 61)).drew.setCell ⟨B, 2, none⟩ (.pointer (some ⟨w.heap.size, 0, none⟩)) = ((w.setCell ⟨B, 2, none⟩ (.pointer (some ⟨w.heap.size, 0, none⟩))).alloc (.cells #[.int .i64 a, .int .i64 15] 61)).drew := by
      rw [World.setCell_drew, World.setCell_alloc_past _ _ _ _ hb]
    rw [e] at h3
    exact h3
  · exact (((Fr.refl (fun k => k = B) w).setCell (fun _ => rfl) _).alloc _).drew
theorem end_any {w : World} {base B : Nat} {l : List Int} {a : Int} {f : Option (Int × Int)} (h : RdIs w base B l a f) :
    Calls Tryd.prog 32 #[.pointer (some ⟨B, 0, none⟩)] w fun e w' => e = .returned (.tuple #[]) ∧ RdIs w' base B l a (rEnd l a f) ∧ Fr (fun k => k = B) w w' := by
  unfold rEnd
  cases f with
  | some pc => exact end_some h
  | none =>
    rw [if_neg (by simp)]
    by_cases hl : a < l.length
    · rw [if_pos hl]; exact end_left h hl
    · rw [if_neg hl]; exact end_full h hl
end Go.Proofs.YthlbcgaegaoanaaDoor.Rdr

namespace Go.Proofs.YthlbcgaegaoanaaDoor.Kinds
open Go Go.RowKit Go.Proofs.YthlbcgaegaoanaaDoorW.PrintWords
set_option linter.unusedVariables false
def pktCells (p : Pkt) (vw vp vm va vc vf : Value) : List Value :=
  [.int .i64 p.kind, .int .i64 p.level, .bool p.clean, .int .i64 p.keep, .string p.client, .bool p.hasWill, .string p.will.topic, vw, .int .i64 p.will.qos, .bool p.will.retain, .bool p.hasUser, .string p.user, .bool p.hasPass, vp, .bool p.present, .int .i64 p.code, .bool p.dup, .string p.msg.topic, vm, .int .i64 p.msg.qos, .bool p.msg.retain, .int .i64 p.id, va, vc, vf]
theorem pkt_M_mk {w : World} {base : Nat} {ok : Nat → Prop} {p : Pkt} {vw vp vm va vc vf : Value} (hw : (Kd.int .u8).R 5 w base ok vw p.will.payload) (hp : (Kd.int .u8).R 5 w base ok vp p.pass) (hm : (Kd.int .u8).R 5 w base ok vm p.msg.payload)
    (ha : kAsk.R 66 w base ok va p.asks) (hc : (Kd.int .i64).R 3 w base ok vc p.codes) (hf : Kd.string.R 9 w base ok vf p.filters) : kPkt.M w base ok p (pktCells p vw vp vm va vc vf) :=
  ⟨[_], _, rfl, rfl, [_], _, rfl, rfl, [_], _, rfl, rfl, [_], _, rfl, rfl, [_], _, rfl, rfl, [_], _, rfl, rfl, _, _, rfl, msg_M_mk hw, [_], _, rfl, rfl, [_], _, rfl, rfl, [_], _, rfl, rfl, [_], _, rfl, ⟨_, rfl, hp⟩, [_], _, rfl, rfl, [_], _, rfl, rfl, [_], _, rfl, rfl, _, _, rfl, msg_M_mk hm, [_], _, rfl, rfl, [_], _, rfl, ⟨_, rfl, ha⟩, [_], [_], rfl, ⟨_, rfl, hc⟩, ⟨_, rfl, hf⟩⟩
theorem pkt_M {w : World} {base : Nat} {ok : Nat → Prop} {p : Pkt} {cs : List Value} (h : kPkt.M w base ok p cs) : ∃ vw vp vm va vc vf, cs = pktCells p vw vp vm va vc vf ∧ (Kd.int .u8).R 5 w base ok vw p.will.payload ∧ (Kd.int .u8).R 5 w base ok vp p.pass ∧ (Kd.int .u8).R 5 w base ok vm p.msg.payload ∧
    kAsk.R 66 w base ok va p.asks ∧ (Kd.int .i64).R 3 w base ok vc p.codes ∧ Kd.string.R 9 w base ok vf p.filters := by
  obtain ⟨c0, d0, rfl, h0, c1, d1, rfl, h1, c2, d2, rfl, h2, c3, d3, rfl, h3, c4, d4, rfl, h4, c5, d5, rfl, h5, c6, d6, rfl, h6, c7, d7, rfl, h7, c8, d8, rfl, h8, c9, d9, rfl, h9, c10, d10, rfl, h10, c11, d11, rfl, h11, c12, d12, rfl, h12, c13, d13, rfl, h13, c14, d14, rfl, h14, c15, d15, rfl, h15, c16, d16, rfl, h16, c17, d17, rfl, h17, h18⟩ := h
  have e0 : c0 = [.int .i64 p.kind] := h0
  have e1 : c1 = [.int .i64 p.level] := h1
  have e2 : c2 = [.bool p.clean] := h2
  have e3 : c3 = [.int .i64 p.keep] := h3
  have e4 : c4 = [.string p.client] := h4
  have e5 : c5 = [.bool p.hasWill] := h5
  have e7 : c7 = [.bool p.hasUser] := h7
  have e8 : c8 = [.string p.user] := h8
  have e9 : c9 = [.bool p.hasPass] := h9
  have e11 : c11 = [.bool p.present] := h11
  have e12 : c12 = [.int .i64 p.code] := h12
  have e13 : c13 = [.bool p.dup] := h13
  have e15 : c15 = [.int .i64 p.id] := h15
  obtain ⟨vw, rfl, hw⟩ := msg_M h6
  obtain ⟨vp, rfl, hp⟩ := h10
  obtain ⟨vm, rfl, hm⟩ := msg_M h14
  obtain ⟨va, rfl, ha⟩ := h16
  obtain ⟨vc, rfl, hc⟩ := h17
  obtain ⟨vf, rfl, hf⟩ := h18
  subst e0 e1 e2 e3 e4 e5 e7 e8 e9 e11 e12 e13 e15
  exact ⟨vw, vp, vm, va, vc, vf, rfl, hw, hp, hm, ha, hc, hf⟩
theorem pkt_K {w : World} {p : Pkt} {cs : List Value} (h : kPkt.K w p cs) : ∃ Aw nw Ap np Am nm Aa na Ac nc Af nf, cs = pktCells p (.slice Aw p.will.payload.length nw) (.slice Ap p.pass.length np) (.slice Am p.msg.payload.length nm) (.slice Aa p.asks.length na) (.slice Ac p.codes.length nc) (.slice Af p.filters.length nf) ∧
    (p.will.payload.length ≤ nw ∧ (Kd.int .u8).C w Aw p.will.payload.length p.will.payload) ∧ (p.pass.length ≤ np ∧ (Kd.int .u8).C w Ap p.pass.length p.pass) ∧ (p.msg.payload.length ≤ nm ∧ (Kd.int .u8).C w Am p.msg.payload.length p.msg.payload) ∧
    (p.asks.length ≤ na ∧ kAsk.C w Aa p.asks.length p.asks) ∧ (p.codes.length ≤ nc ∧ (Kd.int .i64).C w Ac p.codes.length p.codes) ∧ (p.filters.length ≤ nf ∧ Kd.string.C w Af p.filters.length p.filters) := by
  obtain ⟨c0, d0, rfl, h0, c1, d1, rfl, h1, c2, d2, rfl, h2, c3, d3, rfl, h3, c4, d4, rfl, h4, c5, d5, rfl, h5, c6, d6, rfl, h6, c7, d7, rfl, h7, c8, d8, rfl, h8, c9, d9, rfl, h9, c10, d10, rfl, h10, c11, d11, rfl, h11, c12, d12, rfl, h12, c13, d13, rfl, h13, c14, d14, rfl, h14, c15, d15, rfl, h15, c16, d16, rfl, h16, c17, d17, rfl, h17, h18⟩ := h
  have e0 : c0 = [.int .i64 p.kind] := h0
  have e1 : c1 = [.int .i64 p.level] := h1
  have e2 : c2 = [.bool p.clean] := h2
  have e3 : c3 = [.int .i64 p.keep] := h3
  have e4 : c4 = [.string p.client] := h4
  have e5 : c5 = [.bool p.hasWill] := h5
  have e7 : c7 = [.bool p.hasUser] := h7
  have e8 : c8 = [.string p.user] := h8
  have e9 : c9 = [.bool p.hasPass] := h9
  have e11 : c11 = [.bool p.present] := h11
  have e12 : c12 = [.int .i64 p.code] := h12
  have e13 : c13 = [.bool p.dup] := h13
  have e15 : c15 = [.int .i64 p.id] := h15
  obtain ⟨Aw, nw, rfl, hw⟩ := msg_K h6
  obtain ⟨Ap, np, rfl, hp⟩ := h10
  obtain ⟨Am, nm, rfl, hm⟩ := msg_K h14
  obtain ⟨Aa, na, rfl, ha⟩ := h16
  obtain ⟨Ac, nc, rfl, hc⟩ := h17
  obtain ⟨Af, nf, rfl, hf⟩ := h18
  subst e0 e1 e2 e3 e4 e5 e7 e8 e9 e11 e12 e13 e15
  exact ⟨Aw, nw, Ap, np, Am, nm, Aa, na, Ac, nc, Af, nf, rfl, hw, hp, hm, ha, hc, hf⟩
def pktOf (f : Flt) (again : Bool) : Pkt := if f.released then { noPkt with kind := 6, id := f.id } else { noPkt with kind := 3, msg := f.msg, id := f.id, dup := again }
end Go.Proofs.YthlbcgaegaoanaaDoor.Kinds

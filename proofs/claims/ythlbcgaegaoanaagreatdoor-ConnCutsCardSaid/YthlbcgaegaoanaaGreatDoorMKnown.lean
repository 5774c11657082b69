/- A Connect's and a Pingreq's bytes, read: plain facts by computing. No statement of the program. Connections that are told a Connect and Pingreqs: plain. No statement of the program. crierlaw14.known: chapter 14's examples hold. No statement of the program. crierlaw14.all: Next till it answers nothing. No statement of the program. ConnOrder's walk: the first packet is a Connect and no other one is; what ends is last. No statement of the program. -/
import Derived.Test.YthlbcgaegaoanaaGreatDoorMCo
import Derived.Great.BuildSlice
import Derived.BigQuiet
import Derived.Deep.MidRow
namespace Go.Proofs.YthlbcgaegaoanaaGreatDoor.Cr
open Go Go.RowKit Go.Proofs.YthlbcgaegaoanaaGreatDoorW.PrintWords Go.Proofs.YthlbcgaegaoanaaGreatDoorW.PrintLast Go.Proofs.YthlbcgaegaoanaaGreatDoorW.PrintMore Go.Proofs.YthlbcgaegaoanaaGreatDoor.Kinds Go.Proofs.YthlbcgaegaoanaaGreatDoor.Utf Go.Proofs.YthlbcgaegaoanaaGreatDoor.Chk Go.Proofs.YthlbcgaegaoanaaGreatDoor.Rdr
set_option linter.unusedVariables false
set_option linter.unusedSimpArgs false
theorem pkt_eq {p q : Pkt} (h0 : p.kind = q.kind) (h1 : p.level = q.level) (h2 : p.clean = q.clean) (h3 : p.keep = q.keep) (h4 : p.client = q.client) (h5 : p.hasWill = q.hasWill) (h6 : p.will = q.will) (h7 : p.hasUser = q.hasUser) (h8 : p.user = q.user) (h9 : p.hasPass = q.hasPass) (h10 : p.pass = q.pass)
    (h11 : p.present = q.present) (h12 : p.code = q.code) (h13 : p.dup = q.dup) (h14 : p.msg = q.msg) (h15 : p.id = q.id) (h16 : p.asks = q.asks) (h17 : p.codes = q.codes) (h18 : p.filters = q.filters) : p = q := by
  cases p; cases q
  simp only at h0 h1 h2 h3 h4 h5 h6 h7 h8 h9 h10 h11 h12 h13 h14 h15 h16 h17 h18
  subst h0 h1 h2 h3 h4 h5 h6 h7 h8 h9 h10 h11 h12 h13 h14 h15 h16 h17 h18
  rfl
theorem msg_eq {p q : Msg} (h0 : p.topic = q.topic) (h1 : p.payload = q.payload) (h2 : p.qos = q.qos) (h3 : p.retain = q.retain) : p = q := by
  cases p; cases q
  simp only at h0 h1 h2 h3
  subst h0 h1 h2 h3
  rfl
def conPkt (k : Int) : Pkt := { noPkt with kind := 1, level := 4, clean := true, keep := k }
def conBytes (a b : Int) : List Int := [16, 12, 0, 4, 77, 81, 84, 84, 4, 2, a, b, 0, 0]
theorem con_wt (a b : Int) : (fFields [0, 4, 77, 81, 84, 84, 4, 2, a, b, 0, 0] 1 0).p.will.topic = ByteArray.mk #[] := by kernel_rfl
theorem con_wp (a b : Int) : (fFields [0, 4, 77, 81, 84, 84, 4, 2, a, b, 0, 0] 1 0).p.will.payload = [] := by kernel_rfl
theorem con_wq0 : wrap64 (bits .and .u8 2 24 / 8) = 0 := by
  have h : bits .and .u8 2 24 = 0 := by kernel_rfl
  rw [h]; unfold wrap64; omega
theorem con_wq (a b : Int) : (fFields [0, 4, 77, 81, 84, 84, 4, 2, a, b, 0, 0] 1 0).p.will.qos = 0 :=
  (show (fFields [0, 4, 77, 81, 84, 84, 4, 2, a, b, 0, 0] 1 0).p.will.qos = wrap64 (bits .and .u8 2 24 / 8) by kernel_rfl).trans con_wq0
theorem con_wr (a b : Int) : (fFields [0, 4, 77, 81, 84, 84, 4, 2, a, b, 0, 0] 1 0).p.will.retain = false := by kernel_rfl
theorem con_fields (a b : Int) : (fFields [0, 4, 77, 81, 84, 84, 4, 2, a, b, 0, 0] 1 0).p = conPkt (joinG [a, b]) :=
  pkt_eq (by kernel_rfl) (by kernel_rfl) (by kernel_rfl) (by kernel_rfl) (by kernel_rfl) (by kernel_rfl) (msg_eq (con_wt a b) (con_wp a b) (con_wq a b) (con_wr a b)) (by kernel_rfl) (by kernel_rfl) (by kernel_rfl) (by kernel_rfl) (by kernel_rfl) (by kernel_rfl) (by kernel_rfl) (by kernel_rfl) (by kernel_rfl) (by kernel_rfl) (by kernel_rfl) (by kernel_rfl)
theorem con_f (a b : Int) : (fFields [0, 4, 77, 81, 84, 84, 4, 2, a, b, 0, 0] 1 0).f = none := by kernel_rfl
theorem con_bad (a b : Int) : (fFields [0, 4, 77, 81, 84, 84, 4, 2, a, b, 0, 0] 1 0).bad = none := by kernel_rfl
theorem con_head (a b : Int) : headP (conBytes a b) (topP 1000) = (2, 12, none) := by kernel_rfl
theorem con_check (k : Int) (h0 : 0 ≤ k) (h1 : k ≤ 65535) : pchk (conPkt k) = 0 := by
  have c0 : ck0 (conPkt k) = (decide (k < 0) || decide (65535 < k)) := by kernel_rfl
  have c1 : ck1 (conPkt k) = false := by kernel_rfl
  have c2 : ck2 (conPkt k) = false := by kernel_rfl
  have c3 : filtersB (conPkt k) = true := by kernel_rfl
  have c4 : qualB (conPkt k) = true := by kernel_rfl
  have c5 : ck5 (conPkt k) = false := by kernel_rfl
  have c6 : ck6 (conPkt k) = false := by kernel_rfl
  have c7 : ck7 (conPkt k) = false := by kernel_rfl
  have c8 : ck8 (conPkt k) = false := by kernel_rfl
  have ck : isKindB (conPkt k).kind = true := by kernel_rfl
  have e : (decide (k < 0) || decide (65535 < k)) = false := by simp; omega
  unfold pchk
  rw [ck, c0, c1, c2, c3, c4, c5, c6, c7, c8, e]
  rfl
theorem con_dec (a b : Int) (h0 : 0 ≤ joinG [a, b]) (h1 : joinG [a, b] ≤ 65535) : decP (conBytes a b) 1000 = ⟨conPkt (joinG [a, b]), 14, none⟩ := by
  unfold decP
  rw [con_head]
  unfold decF
  have e0 : ((conBytes a b).drop (2 : Int).toNat).take (12 : Int).toNat = [0, 4, 77, 81, 84, 84, 4, 2, a, b, 0, 0] := by kernel_rfl
  have e1 : rd (conBytes a b) 0 / 16 = 1 := by kernel_rfl
  have e2 : rd (conBytes a b) 0 % 16 = 0 := by kernel_rfl
  have e3 : ((conBytes a b).length : Int) = 14 := by kernel_rfl
  rw [if_neg (by simp), if_neg (by rw [e3]; simp)]
  dsimp only
  rw [e0, e1, e2]
  rw [con_fields, con_f, con_bad]
  dsimp only [Option.or]
  rw [if_pos (con_check _ h0 h1)]
  rfl
theorem join_two (a b : Int) (ha0 : 0 ≤ a) (ha : a ≤ 255) (hb0 : 0 ≤ b) (hb : b ≤ 255) : joinG [a, b] = a * 256 + b := by
  have h1 := join_step 0 a (by decide) (by decide) ha0 (by omega)
  have h2 := join_step a b ha0 (Int.lt_of_le_of_lt ha (by decide)) hb0 (by omega)
  simp only [Int.zero_mul, Int.zero_add] at h1
  unfold joinG
  simp only [List.foldl_cons, List.foldl_nil]
  rw [show (0 : Int) * 256 = 0 from rfl, h1]
  exact h2
def pingPkt : Pkt := { noPkt with kind := 12 }
theorem ping_dec : decP [192, 0] 1000 = ⟨pingPkt, 2, none⟩ := by kernel_rfl
theorem ping_half : decP [192] 1000 = ⟨noPkt, 0, none⟩ := by kernel_rfl
end Go.Proofs.YthlbcgaegaoanaaGreatDoor.Cr

namespace Go.Proofs.YthlbcgaegaoanaaGreatDoor.Cr
open Go Go.RowKit Go.Proofs.YthlbcgaegaoanaaGreatDoorW.PrintWords Go.Proofs.YthlbcgaegaoanaaGreatDoorW.PrintLast Go.Proofs.YthlbcgaegaoanaaGreatDoorW.PrintMore Go.Proofs.YthlbcgaegaoanaaGreatDoor.Kinds Go.Proofs.YthlbcgaegaoanaaGreatDoor.Utf Go.Proofs.YthlbcgaegaoanaaGreatDoor.Chk Go.Proofs.YthlbcgaegaoanaaGreatDoor.Rdr
set_option linter.unusedVariables false
set_option linter.unusedSimpArgs false
def kS (b : List Int) (sp kp si : Int) : CoS := ⟨1, ⟨b, sp, none⟩, kp, si⟩
theorem bytes_con {a b : Int} (ha0 : 0 ≤ a) (ha : a ≤ 255) (hb0 : 0 ≤ b) (hb : b ≤ 255) : Bytes (conBytes a b) := by
  intro x hx
  simp only [conBytes, List.mem_cons, List.not_mem_nil, or_false] at hx
  omega
theorem co_first {a b : Int} (ha0 : 0 ≤ a) (ha : a ≤ 255) (hb0 : 0 ≤ b) (hb : b ≤ 255) (k : Int) (hk : a * 256 + b = k) (m : List Int) (hm : Bytes m) : (CoS.new.push (conBytes a b ++ m)).next 1000 = (⟨⟨1, conPkt k, 0, 0⟩, true⟩, kS m 14 k 0) := by
  have hj := join_two a b ha0 ha hb0 hb
  have hd := con_dec a b (by omega) (by omega)
  have hw := bytes_con ha0 ha hb0 hb
  have hd2 : decP (conBytes a b ++ m) 1000 = ⟨conPkt k, 14, none⟩ := by
    rw [decP_app (conBytes a b) m 1000 (fun i => hw.at_ i) (by rw [hd]; intro h; exact absurd (show (14 : Int) = 0 from h.1) (by decide)), hd, hj, hk]
  have e0 : CoS.new.push (conBytes a b ++ m) = ⟨0, ⟨conBytes a b ++ m, 0, none⟩, 0, 0⟩ := by
    unfold CoS.push CoS.new
    rw [if_neg (by decide)]
    unfold FrS.put FrS.new
    simp
  have e1 : (⟨conBytes a b ++ m, 0, none⟩ : FrS).next 1000 = (⟨conPkt k, true, none⟩, ⟨m, 14, none⟩) := by
    rw [FrS.next_none 1000 rfl]
    unfold nextF
    rw [hd2]
    simp only [if_neg (show ¬ (14 : Int) = 0 by decide)]
    have : (conBytes a b ++ m).drop (14 : Int).toNat = m := by
      rw [List.drop_left' (by rfl)]
    rw [this]
    congr 2
    unfold wrap64; omega
  rw [e0]
  unfold CoS.next
  simp only [if_neg (show ¬ (0 : Int) = 2 by decide), e1]
  have e2 : nextA 0 ⟨conPkt k, true, none⟩ = ⟨⟨1, conPkt k, 0, 0⟩, true⟩ := by
    unfold nextA judgeP
    simp [conPkt, noPkt]
  rw [e2]
  simp only [if_true]
  congr 1
  unfold tookP kS
  simp only [if_neg (show ¬ (0 : Int) = 2 by decide), if_true]
  rw [if_pos (show (conPkt k).kind = 1 from rfl)]
  have : min (max (conPkt k).keep 0) 65535 = k := by
    show min (max k 0) 65535 = k
    omega
  rw [this]
theorem co_half (sp kp si : Int) : (kS [192] sp kp si).next 1000 = (⟨noIn, false⟩, kS [192] sp kp si) := by
  have e1 : (⟨[192], sp, none⟩ : FrS).next 1000 = (⟨noPkt, false, none⟩, ⟨[192], sp, none⟩) := by
    rw [FrS.next_none 1000 rfl]
    unfold nextF
    rw [ping_half]
    simp
  unfold CoS.next kS
  simp only [if_neg (show ¬ (1 : Int) = 2 by decide), e1]
  simp [nextA]
theorem co_ping (sp kp si : Int) : (kS [192, 0] sp kp si).next 1000 = (⟨⟨1, pingPkt, 0, 0⟩, true⟩, kS [] (wrap64 (sp + 2)) kp 0) := by
  have e1 : (⟨[192, 0], sp, none⟩ : FrS).next 1000 = (⟨pingPkt, true, none⟩, ⟨[], wrap64 (sp + 2), none⟩) := by
    rw [FrS.next_none 1000 rfl]
    unfold nextF
    rw [ping_dec]
    simp
  unfold CoS.next kS
  simp only [if_neg (show ¬ (1 : Int) = 2 by decide), e1]
  have e2 : nextA 1 ⟨pingPkt, true, none⟩ = ⟨⟨1, pingPkt, 0, 0⟩, true⟩ := by
    unfold nextA judgeP
    simp [pingPkt, noPkt]
  rw [e2]
  simp only [if_true]
  congr 1
theorem co_early : (CoS.new.push [192, 0]).next 1000 = (⟨⟨3, noPkt, 0, 140⟩, true⟩, ⟨2, ⟨[], 2, none⟩, 0, 0⟩) := by
  have e0 : CoS.new.push [192, 0] = ⟨0, ⟨[192, 0], 0, none⟩, 0, 0⟩ := rfl
  have e1 : (⟨[192, 0], 0, none⟩ : FrS).next 1000 = (⟨pingPkt, true, none⟩, ⟨[], 2, none⟩) := by
    rw [FrS.next_none 1000 rfl]
    unfold nextF
    rw [ping_dec]
    simp
    unfold wrap64; omega
  rw [e0]
  unfold CoS.next
  simp only [if_neg (show ¬ (0 : Int) = 2 by decide), e1]
  have e2 : nextA 0 ⟨pingPkt, true, none⟩ = ⟨⟨3, noPkt, 0, 140⟩, true⟩ := by
    unfold nextA judgeP
    simp [pingPkt, noPkt]
  rw [e2]
  simp only [if_true]
  congr 1
theorem co_push (b l : List Int) (sp kp si : Int) : (kS b sp kp si).push l = kS (b ++ l) sp kp si := by
  unfold CoS.push kS
  rw [if_neg (show ¬ (1 : Int) = 2 by decide)]
  unfold FrS.put
  simp
theorem co_tick (b : List Int) (sp kp si pat : Int) (h0 : 0 < kp) (h1 : kp ≤ 65535) (h2 : 0 ≤ si) (h3 : si ≤ 1000000) : (kS b sp kp si).tick pat = (decide (kp / 2 < si + 1 - kp), kS b sp kp (si + 1)) := by
  unfold CoS.tick kS
  simp only [if_neg (show ¬ (1 : Int) = 2 by decide)]
  have e1 : wrap64 (si + 1) = si + 1 := by unfold wrap64; omega
  rw [e1]
  unfold lateB
  rw [if_pos rfl]
  have e2 : kp.tdiv 2 = kp / 2 := Int.tdiv_eq_ediv_of_nonneg (by omega)
  have e3 : wrap64 (kp / 2) = kp / 2 := by unfold wrap64; omega
  have e4 : wrap64 (si + 1 - kp) = si + 1 - kp := by unfold wrap64; omega
  rw [e2, e3, e4, decide_eq_true h0]
  simp
end Go.Proofs.YthlbcgaegaoanaaGreatDoor.Cr

namespace Go.Proofs.YthlbcgaegaoanaaGreatDoor.Cr
open Go Go.RowKit Go.Proofs.YthlbcgaegaoanaaGreatDoorW.PrintWords Go.Proofs.YthlbcgaegaoanaaGreatDoorW.PrintLast Go.Proofs.YthlbcgaegaoanaaGreatDoorW.PrintMore Go.Proofs.YthlbcgaegaoanaaGreatDoor.Kinds Go.Proofs.YthlbcgaegaoanaaGreatDoor.Utf Go.Proofs.YthlbcgaegaoanaaGreatDoor.Chk Go.Proofs.YthlbcgaegaoanaaGreatDoor.Rdr
set_option linter.unusedVariables false
set_option linter.unusedSimpArgs false
theorem C_lit (W : World) (xs : List Int) (hm : xs.length ≤ 9223372036854775807) : (Kd.int .u8).C (W.alloc (.cells (nums .u8 xs).toArray 5)) (some ⟨W.heap.size, 0, none⟩) xs.length xs := by
  obtain ⟨A, c, he, _, hc⟩ := Kd.R_reads (show (Kd.int .u8).R 5 (W.alloc (.cells (nums .u8 xs).toArray 5)) 0 (fun _ => True) (.slice (some ⟨W.heap.size, 0, none⟩) xs.length xs.length) xs from
    Kd.R_of_own (own_lit W 0 5 .u8 xs (Nat.zero_le _) hm) (fun _ _ => trivial))
  injection he with h1 h2 h3
  subst h1
  exact hc
theorem in_open {w : World} {base : Nat} {ok : Nat → Prop} {i : InV} {cs : List Value} (h : kIn.M w base ok i cs) : cs.toArray[0]? = some (.int .i64 i.what) ∧ cs.toArray[1]? = some (.int .i64 i.p.kind) ∧ cs.toArray[3]? = some (.bool i.p.clean) ∧ cs.toArray[4]? = some (.int .i64 i.p.keep) ∧ cs.toArray[26]? = some (.int .i64 i.code) ∧ cs.toArray[27]? = some (.int .i64 i.err) ∧
    (Tryz.prog.info? 41).map (·.size) = some cs.toArray.size ∧ inCells0.size = cs.toArray.size ∧ cs.toArray.all (·.oneCell') = true ∧ cs.toArray.size = 28 := by
  obtain ⟨pc, rfl, hp⟩ := in_M h
  obtain ⟨vw, vp, vm, va, vc, vf, rfl, _⟩ := pkt_M hp
  exact ⟨rfl, rfl, rfl, rfl, rfl, rfl, inC_size i hp, inC_sz2 i hp, inC_one i hp, rfl⟩
section
variable {w w1 : World} {base C F : Nat} {most pat : Int} {s : CoS}
theorem CoIs.high {ok : Nat → Prop} (h : CoIs w base C F most pat s) (hf : Fr ok w w1) (hok : ∀ k, ok k → k < base) : CoIs w1 base C F most pat s := by
  obtain ⟨v, ev, h1, h2, h3⟩ := h.fr.ex
  have hn : ∀ k, base ≤ k → ¬ ok k := fun k hk e => by have := hok k e; omega
  refine ⟨(hf.block C (blk_lt h.self) (hn C h.ge)).trans h.self, ⟨⟨v, ev, (hf.block F (blk_lt h1) (hn F h.fr.ge)).trans h1, ?_, ?_⟩, h.fr.ge, h.fr.ok⟩, h.ge⟩
  · exact Kd.V_mono (Kd.V_step (Kd.V_bound h2) (fun k hk hlt => hf.block k hlt (hn k hk.1.1))) (fun k hk => ⟨hk.1.1, by
      obtain ⟨cells, hc⟩ := hk.1.2
      exact ⟨cells, (hf.block k hk.2 (hn k hk.1.1)).trans hc⟩⟩)
  · cases he : s.fr.err with
    | none => rw [he] at h3; exact h3
    | some q =>
      rw [he] at h3
      obtain ⟨G, rfl, hG, hb⟩ := h3
      exact ⟨G, rfl, (hf.block G (blk_lt hG) (hn G hb)).trans hG, hb⟩
end
structure Keep (w0 : World) (base C F : Nat) (most pat : Int) (s : CoS) (w : World) : Prop where
  co : CoIs w base C F most pat s
  bel : Below w0.heap.size w0 w
theorem Keep.below {w0 w w1 : World} {base C F : Nat} {most pat : Int} {s : CoS} (h : Keep w0 base C F most pat s w) (hb : Below w.heap.size w w1) : Keep w0 base C F most pat s w1 := ⟨h.co.below hb, h.bel.trans (hb.mono h.bel.size)⟩
theorem Keep.call {w0 w w1 : World} {base C F : Nat} {most pat : Int} {s s2 : CoS} (h : Keep w0 base C F most pat s w) (hb : w0.heap.size ≤ base) (hc : CoIs w1 base C F most pat s2) (hf : Fr (okC C F) w w1) : Keep w0 base C F most pat s2 w1 :=
  ⟨hc, hf.below h.bel (fun k e => by have := h.co.ge; have := h.co.fr.ge; rcases e with e | e <;> omega) h.bel.size⟩
section
variable {w0 w : World} {base C F : Nat} {most pat : Int} {s : CoS}
theorem keep_next (hg : Gl w0) (h : Keep w0 base C F most pat s w) (hb0 : w0.heap.size ≤ base) (r : CA × CoS) (hr : s.next most = r) (hlen : s.fr.b.length ≤ 1099511627770) :
    Calls Tryz.prog 18 #[.pointer (some ⟨C, 0, none⟩)] w fun e w' => ∃ cs : List Value, e = .returned (.tuple #[.agg cs.toArray, .bool r.1.ok]) ∧ kIn.M w' w.heap.size (fun _ => True) r.1.i cs ∧ Keep w0 base C F most pat r.2 w' ∧ Fr (okC C F) w w' := by
  subst hr
  exact (coNext_any (hg.below h.bel hg.sz h.bel.size) h.co hlen (Nat.le_trans hg.sz hb0)).mono fun e w' ⟨cs, h1, h2, h3, h4⟩ => ⟨cs, h1, h2, h.call hb0 h3 h4, h4⟩
theorem keep_push (h : Keep w0 base C F most pat s w) (hb0 : w0.heap.size ≤ base) (l : List Int) (A : Option Addr) (n c : Nat) (hn : n = l.length) (hr : (Kd.int .u8).C w A l.length l) (hb : ∀ x ∈ l, 0 ≤ x ∧ x ≤ 255) (hlen : s.fr.b.length + l.length ≤ 1099511627776) (s2 : CoS) (hs : s.push l = s2) :
    Calls Tryz.prog 14 #[.pointer (some ⟨C, 0, none⟩), .slice A n c] w fun e w' => e = .returned (.tuple #[]) ∧ Keep w0 base C F most pat s2 w' ∧ Fr (okC C F) w w' := by
  subst hn hs
  exact (push_any h.co l A c hr hb hlen).mono fun e w' ⟨h1, h2, h3⟩ => ⟨h1, h.call hb0 h2 (h3.mono (fun k _ e => .inr e)), h3.mono (fun k _ e => .inr e)⟩
theorem keep_tick (h : Keep w0 base C F most pat s w) (hb0 : w0.heap.size ≤ base) (r : Bool × CoS) (hr : s.tick pat = r) :
    Calls Tryz.prog 19 #[.pointer (some ⟨C, 0, none⟩)] w fun e w' => e = .returned (.bool r.1) ∧ Keep w0 base C F most pat r.2 w' ∧ Fr (okC C F) w w' := by
  subst hr
  exact (tick_any h.co).mono fun e w' ⟨h1, h2, h3⟩ => ⟨h1, h.call hb0 h2 (h3.mono (fun k _ e => .inl e)), h3.mono (fun k _ e => .inl e)⟩
theorem keep_over (h : Keep w0 base C F most pat s w) (b : Bool) (hb : (s.st == 2) = b) :
    Calls Tryz.prog 17 #[.pointer (some ⟨C, 0, none⟩)] w fun e w' => e = .returned (.bool b) ∧ w = w' := by
  subst hb
  exact over_any h.co
theorem keep_new (most pat : Int) (w : World) :
    Calls Tryz.prog 13 #[.int .i64 most, .int .i64 pat] w fun e w' => ∃ C F, e = .returned (.pointer (some ⟨C, 0, none⟩)) ∧ Keep w w.heap.size C F most (max pat 0) CoS.new w' :=
  (coNew_any most pat w).mono fun e w' ⟨C, F, h1, h2, h3⟩ => ⟨C, F, h1, h2, h3⟩
end
theorem con_bytes0 : Bytes (conBytes 0 10 ++ [192]) := (bytes_con (by decide) (by decide) (by decide) (by decide)).app (by intro x hx; simp only [List.mem_cons, List.not_mem_nil, or_false] at hx; omega)
theorem one_byte (x : Int) (h0 : 0 ≤ x) (h1 : x ≤ 255) : Bytes [x] := by intro y hy; simp only [List.mem_cons, List.not_mem_nil, or_false] at hy; omega
theorem ping_bytes : Bytes [192, 0] := by intro y hy; simp only [List.mem_cons, List.not_mem_nil, or_false] at hy; omega
set_option maxRecDepth 100000 in
set_option maxHeartbeats 4000000 in
theorem known_any {w : World} (hg : Gl w) : Calls Tryz.prog 12 #[] w fun e w' => e = .returned (.bool true) ∧ Below w.heap.size w w' := by
  have HG := Aside0.mk hg
  clear hg
  go_enter Tryz.func12, Tryz.ntmps12
  go_upto_region 5 with (first
    | (go_at_call 13; refine (keep_new 1000 0 _).mono ?_; rintro e w1 ⟨C, F, rfl, hK⟩; have HK1 := Aside0.mk hK; clear hK)
    | (go_at_call 17; refine (keep_over HK1.out false rfl).mono ?_; rintro e w2 ⟨rfl, rfl⟩)
    | (go_at_call 14; refine (keep_push (HK1.out.below (below_alloc (Below.refl _ _) _)) (Nat.le_refl _) (conBytes 0 10 ++ [192]) _ _ _ rfl (C_lit _ (conBytes 0 10 ++ [192]) (by decide)) con_bytes0 (by decide) _ rfl).mono ?_; rintro e w3 ⟨rfl, hK, _⟩; have HK3 := Aside0.mk hK; clear hK))
  go_upto_region 6 with (first
    | (go_at_call 18; refine (keep_next HG.out HK3.out (Nat.le_refl _) _ (co_first (a := 0) (b := 10) (by decide) (by decide) (by decide) (by decide) 10 rfl [192] (one_byte 192 (by decide) (by decide))) (by decide)).mono ?_; rintro e w4 ⟨cs4, rfl, hM, hK, _⟩; have HM4 := Aside0.mk (in_open hM); have HK4 := Aside0.mk hK; clear hM hK; dsimp only)
    | (refine wpList_store_row rfl 41 _ _ rfl w4.heap.size _ rfl rfl 41 _ (heap_alloc_new w4 (.cells inCells0 41)) HM4.out.2.2.2.2.2.2.1 HM4.out.2.2.2.2.2.2.2.1 HM4.out.2.2.2.2.2.2.2.2.1 ?_))
  obtain ⟨B, hB⟩ : ∃ B, B = w4.heap.size := ⟨_, rfl⟩
  obtain ⟨W5, hW5⟩ : ∃ W : World, W = (w4.alloc (.cells inCells0 41)).setRow w4.heap.size cs4.toArray := ⟨_, rfl⟩
  have hb5 : Below w4.heap.size w4 W5 := by rw [hW5]; exact setRow_below (below_alloc (Below.refl _ _) _) (Nat.le_refl _) _
  have hB5 : W5.heap[B]? = some (.cells cs4.toArray 41 (0, 0)) := by rw [hW5, hB]; exact setRow_block (heap_alloc_new w4 _)
  have HK5 := Aside0.mk (HK4.out.below hb5)
  have HBN := Aside0.mk (show ¬ okC C F B from by
    rintro (e | e)
    · have := blk_lt HK4.out.co.self; omega
    · have := HK4.out.co.fr.lt; omega)
  have HB5 := Aside0.mk hB5
  have HBW := Aside0.mk (show w.heap.size ≤ B from by rw [hB]; exact HK4.out.bel.size)
  have b0 : W5.cell? ⟨B, 0, none⟩ = some (.int .i64 1) := (blk_cell hB5 0).trans HM4.out.1
  have b1 : W5.cell? ⟨B, 1, none⟩ = some (.int .i64 1) := (blk_cell hB5 1).trans HM4.out.2.1
  have b3 : W5.cell? ⟨B, 3, none⟩ = some (.bool true) := (blk_cell hB5 3).trans HM4.out.2.2.1
  have b4 : W5.cell? ⟨B, 4, none⟩ = some (.int .i64 10) := (blk_cell hB5 4).trans HM4.out.2.2.2.1
  refine wp_wld (w2 := W5) (by rw [hW5]; rfl) ?_
  rw [← hB]
  clear hB hW5 hb5 hB5
  go_upto_region 8 with fail
  clear b0 b1 b3 b4
  go_upto_region 11 with (first
    | (go_at_call 18; refine (keep_next HG.out HK5.out (Nat.le_refl _) _ (co_half 14 10 0) (by decide)).mono ?_; rintro e w6 ⟨cs6, rfl, hM, hK, hF⟩; have HK6 := Aside0.mk hK; have HB6 := Aside0.mk ((hF.block B (blk_lt HB5.out) HBN.out).trans HB5.out); clear hM hK hF HK5; dsimp only)
    | (go_at_call 14; refine (keep_push (HK6.out.below (below_alloc (Below.refl _ _) _)) (Nat.le_refl _) [0] _ _ _ rfl (C_lit _ [0] (by decide)) (one_byte 0 (by decide) (by decide)) (by decide) _ (co_push [192] [0] 14 10 0)).mono ?_; rintro e w7 ⟨rfl, hK, hF⟩; have HK7 := Aside0.mk hK; have HB7 := Aside0.mk ((hF.block B (by simp; have := blk_lt HB6.out; omega) HBN.out).trans ((heap_alloc_old _ _ (blk_lt HB6.out)).trans HB6.out)); clear hK hF HK6)
    | (go_at_call 18; refine (keep_next HG.out HK7.out (Nat.le_refl _) _ (co_ping 14 10 0) (by decide)).mono ?_; rintro e w8 ⟨cs8, rfl, hM, hK, hF⟩; have HM8 := Aside0.mk (in_open hM); have HK8 := Aside0.mk hK; have HB8 := Aside0.mk ((hF.block B (blk_lt HB7.out) HBN.out).trans HB7.out); clear hM hK hF HK7; dsimp only)
    | (refine wpList_store_row rfl 41 _ _ rfl B _ rfl rfl 41 _ HB8.out HM8.out.2.2.2.2.2.2.1 (HM4.out.2.2.2.2.2.2.2.2.2.trans HM8.out.2.2.2.2.2.2.2.2.2.symm) HM8.out.2.2.2.2.2.2.2.2.1 ?_))
  obtain ⟨W9, hW9⟩ : ∃ W : World, W = w8.setRow B cs8.toArray := ⟨_, rfl⟩
  have hB9 : W9.heap[B]? = some (.cells cs8.toArray 41 (0, 0)) := by rw [hW9]; exact setRow_block HB8.out
  have hK9 : Keep w w.heap.size C F 1000 (max 0 0) (kS [] (wrap64 (14 + 2)) 10 0) W9 := by
    rw [hW9]
    exact ⟨HK8.out.co.frm (setRow_fr w8 B _) (fun k hk e => ⟨_, _, e ▸ HB8.out, by decide, by decide, by decide, by decide⟩), setRow_below HK8.out.bel HBW.out _⟩
  have HK9 := Aside0.mk hK9
  have b0 : W9.cell? ⟨B, 0, none⟩ = some (.int .i64 1) := (blk_cell hB9 0).trans HM8.out.1
  have b1 : W9.cell? ⟨B, 1, none⟩ = some (.int .i64 12) := (blk_cell hB9 1).trans HM8.out.2.1
  refine wp_wld (w2 := W9) (by rw [hW9]) ?_
  clear hW9 hB9 hK9
  go_upto_region 13 with fail
  clear b0 b1
  go_wp2_with fail
  go_loopg [5] 15 (fun q i wr => ∃ k : Nat, k + q = 15 ∧ i = .int .i64 (k : Int) ∧ Aside0 (Keep w w.heap.size C F 1000 (max 0 0) (kS [] (wrap64 (14 + 2)) 10 (k : Int)) wr))
  case atStart => exact ⟨0, rfl, rfl, HK9⟩
  case round =>
    obtain ⟨k, hkq, rfl, HKR⟩ := hrel
    rcases Nat.lt_or_ge k 15 with hk | hk
    · have t0 : decide ((k : Int) < 15) = true := decide_eq_true (by omega)
      have ek : wrap64 ((k : Int) + 1) = ((k + 1 : Nat) : Int) := by unfold wrap64; omega
      obtain ⟨q1, rfl⟩ : ∃ q1, gk = q1 + 1 := ⟨gk - 1, by omega⟩
      have HT := Aside0.mk (co_tick [] (wrap64 (14 + 2)) 10 (k : Int) (max 0 0) (by decide) (by decide) (by omega) (by omega))
      have HTF := Aside0.mk (show decide ((10 : Int) / 2 < (k : Int) + 1 - 10) = false from decide_eq_false (by omega))
      go_wp2_with (go_at_call 19; refine (keep_tick HKR.out (Nat.le_refl _) _ HT.out).mono ?_; rintro e w10 ⟨rfl, hK, _⟩; have HK10 := Aside0.mk hK; clear hK; dsimp only; rw [HTF.out])
      go_roundg q1
      case measure => exact Nat.lt_succ_self _
      case rel => exact ⟨k + 1, by omega, by rw [show (((k + 1 : Nat) : Int)) = (k : Int) + 1 by omega], by rw [show (((k + 1 : Nat) : Int)) = (k : Int) + 1 by omega]; exact HK10⟩
    · have t0 : decide ((k : Int) < 15) = false := decide_eq_false (by omega)
      have hk15 : k = 15 := by omega
      subst hk15
      have HGR := Aside0.mk (HG.out.below HKR.out.bel HG.out.sz HKR.out.bel.size)
      clear hkq
      go_upto_region 21 with (first
        | (go_at_call 13; refine (keep_new 1000 0 _).mono ?_; rintro e w11 ⟨D, G, rfl, hK⟩; have HD1 := Aside0.mk hK; clear hK)
        | (go_at_call 14; refine (keep_push (HD1.out.below (below_alloc (Below.refl _ _) _)) (Nat.le_refl _) [192, 0] _ _ _ rfl (C_lit _ [192, 0] (by decide)) ping_bytes (by decide) _ rfl).mono ?_; rintro e w12 ⟨rfl, hK, _⟩; have HD2 := Aside0.mk hK; clear hK)
        | (go_at_call 18; refine (keep_next HGR.out HD2.out (Nat.le_refl _) _ co_early (by decide)).mono ?_; rintro e w13 ⟨cs13, rfl, hM, hK, _⟩; have HM13 := Aside0.mk (in_open hM); have HD3 := Aside0.mk hK; clear hM hK; dsimp only)
        | (refine wpList_store_row rfl 41 _ _ rfl w13.heap.size _ rfl rfl 41 _ (heap_alloc_new w13 (.cells inCells0 41)) HM13.out.2.2.2.2.2.2.1 HM13.out.2.2.2.2.2.2.2.1 HM13.out.2.2.2.2.2.2.2.2.1 ?_))
      obtain ⟨B2, hB2⟩ : ∃ B, B = w13.heap.size := ⟨_, rfl⟩
      obtain ⟨W14, hW14⟩ : ∃ W : World, W = (w13.alloc (.cells inCells0 41)).setRow w13.heap.size cs13.toArray := ⟨_, rfl⟩
      have hb14 : Below w13.heap.size w13 W14 := by rw [hW14]; exact setRow_below (below_alloc (Below.refl _ _) _) (Nat.le_refl _) _
      have hB14 : W14.heap[B2]? = some (.cells cs13.toArray 41 (0, 0)) := by rw [hW14, hB2]; exact setRow_block (heap_alloc_new w13 _)
      have hD14 := HD3.out.below hb14
      have hC14 : Keep w w.heap.size C F 1000 (max 0 0) (kS [] (wrap64 (14 + 2)) 10 ((15 : Nat) : Int)) W14 := HKR.out.below hD14.bel
      have HT := Aside0.mk (co_tick [] (wrap64 (14 + 2)) 10 ((15 : Nat) : Int) (max 0 0) (by decide) (by decide) (by decide) (by decide))
      have HTF := Aside0.mk (show decide ((10 : Int) / 2 < ((15 : Nat) : Int) + 1 - 10) = true from decide_eq_true (by decide))
      have HC14 := Aside0.mk hC14
      have HD14 := Aside0.mk hD14
      have HB14 := Aside0.mk hB14
      have hCl : C < wr.heap.size ∧ F < wr.heap.size := ⟨blk_lt HKR.out.co.self, HKR.out.co.fr.lt⟩
      have HCL := Aside0.mk hCl
      have HB2 := Aside0.mk (show wr.heap.size ≤ B2 from by rw [hB2]; exact HD3.out.bel.size)
      refine wp_wld (w2 := W14) (by rw [hW14]; rfl) ?_
      rw [← hB2]
      clear hB2 hW14 hb14 hB14 hD14 hC14 hCl
      go_wp2_with (first
        | (go_at_call 19; refine (keep_tick HC14.out (Nat.le_refl _) _ HT.out).mono ?_; rintro e w15 ⟨rfl, hK, hF⟩; have HK15 := Aside0.mk hK; have hB15 := (hF.block B2 (blk_lt HB14.out) (by have h1 := HCL.out; have h2 := HB2.out; rintro (e | e) <;> omega)).trans HB14.out; have b0 : w15.cell? ⟨B2, 0, none⟩ = some (.int .i64 3) := (blk_cell hB15 0).trans HM13.out.1; have b27 : w15.cell? ⟨B2, 27, none⟩ = some (.int .i64 140) := (blk_cell hB15 27).trans HM13.out.2.2.2.2.2.1; have HD15 := Aside0.mk (HD14.out.co.high hF (by have h1 := HCL.out; rintro k (e | e) <;> omega)); clear hK hF hB15; dsimp only; rw [HTF.out])
        | (go_at_call 17; refine (over_any HD15.out).mono ?_; rintro e w16 ⟨rfl, rfl⟩))
      go_ret
      exact ⟨rfl, HK15.out.bel⟩
end Go.Proofs.YthlbcgaegaoanaaGreatDoor.Cr

namespace Go.Proofs.YthlbcgaegaoanaaGreatDoor.Cr
open Go Go.RowKit Go.Proofs.YthlbcgaegaoanaaGreatDoorW.PrintWords Go.Proofs.YthlbcgaegaoanaaGreatDoorW.PrintLast Go.Proofs.YthlbcgaegaoanaaGreatDoorW.PrintMore Go.Proofs.YthlbcgaegaoanaaGreatDoor.Kinds Go.Proofs.YthlbcgaegaoanaaGreatDoor.Utf Go.Proofs.YthlbcgaegaoanaaGreatDoor.Chk Go.Proofs.YthlbcgaegaoanaaGreatDoor.Rdr
set_option linter.unusedVariables false
set_option linter.unusedSimpArgs false
theorem wpList_buildOne {P : Program} {ops : Array Oper} {rest : List Oper} {o : Oper} {a : Act} {w : World} {Q : Exit → Act → World → Prop} (hg : o.guard = none) (t e : TypeId) (x : Operand) (ho : o.op = .buildSlice t 1 #[(0, x)])
    (cs : List Value) (hx : a.eval x = .agg cs.toArray) (z : Value) (sz bytes : Nat) (hu : P.underlying t = some (.slice e)) (hinfo : (P.info? e).map (fun i => (i.zero, i.size, i.bytes)) = some (some z, sz, bytes)) (hz : z.cells.size = sz) (hl : cs.length = sz) (h0 : 0 < sz) (hsm : sz ≤ 2 ^ 24)
    (h : wpList P ops Q rest (a.put o.dst (.slice (some ⟨w.heap.size, 0, none⟩) 1 1)) (w.alloc (.cells cs.toArray e))) : wpList P ops Q (o :: rest) a w := by
  obtain ⟨ie, hi, hzz⟩ := Option.map_eq_some_iff.1 hinfo
  simp only [Prod.mk.injEq] at hzz
  obtain ⟨hz0, hz1, hz2⟩ := hzz
  refine wpList_buildSlice hg t e 1 _ ho cs.toArray ie z hu hi hz0 (by rw [hz1]; omega) (by rw [hz1]; omega) ?_ h
  have hf := Great.fill_whole (s := ie.size) (by omega) [.agg cs.toArray] ((Array.range (1 * ie.size)).map (z.cells[· % z.cells.size]!)) (by simp [Value.cells, hl, hz1]) (by simp)
  simpa [hx, Value.cells] using hf
theorem infoIn : (Tryz.prog.info? 41).map (fun i => (i.zero, i.size, i.bytes)) = some (some (.agg inCells0), 28, 352) := by kernel_rfl
structure AllAt (w0 w : World) (base C F : Nat) (most pat : Int) (s : CoS) (wr : World) (v : Value) (acc : List InV) (s1 : CoS) : Prop where
  co : Keep w0 base C F most pat s1 wr
  row : kIn.R 41 wr w.heap.size (fun k => w.heap.size ≤ k) v acc
  fr : Fr (okC C F) w wr
  one : acc ++ (s1.all most).1 = (s.all most).1
  two : (s1.all most).2 = (s.all most).2
set_option maxRecDepth 100000 in
set_option maxHeartbeats 4000000 in
theorem all_any {w0 w : World} {base C F : Nat} {most pat : Int} {s : CoS} (hg : Gl w0) (h : Keep w0 base C F most pat s w) (hb0 : w0.heap.size ≤ base) (n : Int) (hn : (s.left : Int) ≤ n) (hsm : s.left ≤ 1000000) (hn2 : n ≤ 1000000) :
    Calls Tryz.prog 15 #[.pointer (some ⟨C, 0, none⟩), .int .i64 n] w fun e w' => ∃ v, e = .returned (.tuple #[v, .bool true]) ∧ kIn.R 41 w' w.heap.size (fun k => w.heap.size ≤ k) v (s.all most).1 ∧ Keep w0 base C F most pat (s.all most).2 w' ∧ Fr (okC C F) w w' := by
  have HG := Aside0.mk hg
  have HCF := Aside0.mk (show C < w.heap.size ∧ F < w.heap.size from ⟨blk_lt h.co.self, h.co.fr.lt⟩)
  have HA := Aside0.mk (show AllAt w0 w base C F most pat s w (.slice none 0 0) [] s from ⟨h, Kd.R_nil _ _ _ _ _, Fr.refl _ _, rfl, rfl⟩)
  have HB0 := Aside0.mk hb0
  have HWS := Aside0.mk (show w0.heap.size ≤ w.heap.size from h.bel.size)
  clear h hg hb0
  go_enter Tryz.func15, Tryz.ntmps15
  go_upto_region 2 with fail
  go_wp2_with fail
  go_loopg [6, 7] (s.left + 1) (fun q v i wr => ∃ (k : Nat) (acc : List InV) (s1 : CoS) (v0 : Value), v0 = v ∧ i = .int .i64 (k : Int) ∧ acc.length = k ∧ k + s1.left ≤ s.left ∧ s1.left < q ∧ Aside0 (AllAt w0 w base C F most pat s wr v0 acc s1))
  case atStart => exact ⟨0, [], s, _, rfl, rfl, rfl, by omega, by omega, HA⟩
  case round =>
    obtain ⟨k, acc, s1, v, rfl, rfl, hk, hks, hq, HR⟩ := hrel
    clear HA
    have t0 : decide ((k : Int) ≤ n) = true := decide_eq_true (by omega)
    have hlt : s1.fr.b.length ≤ 1099511627770 ∨ s1.st = 2 := by
      by_cases h2 : s1.st = 2
      · exact .inr h2
      · left; have hl : s1.left = s1.fr.b.length + 1 := by unfold CoS.left; rw [if_neg h2]
        omega
    obtain ⟨r, hr⟩ : ∃ r, s1.next most = r := ⟨_, rfl⟩
    have HN := Aside0.mk (show Calls Tryz.prog 18 #[.pointer (some ⟨C, 0, none⟩)] wr fun e w' => ∃ cs : List Value, e = .returned (.tuple #[.agg cs.toArray, .bool r.1.ok]) ∧ kIn.M w' wr.heap.size (fun _ => True) r.1.i cs ∧ Keep w0 base C F most pat r.2 w' ∧ Fr (okC C F) wr w' by
      rcases hlt with h | h
      · exact keep_next HG.out HR.out.co HB0.out r hr h
      · subst hr
        rw [CoS.next_over most h]
        exact (co_over HR.out.co.co h).mono fun e w' ⟨cs, h1, h2, h3, h4⟩ => ⟨cs, h1, h2, HR.out.co.call HB0.out h3 h4, h4⟩)
    have hfo := HR.out.co.co.fr.ok
    have HRR := Aside0.mk hr
    have HKK := Aside0.mk (And.intro hk (And.intro hks hq))
    clear hlt
    go_upto_region 6 with (first
      | (go_at_call 18; (with_reducible refine (HN.out).mono ?_); rintro e w4 ⟨cs4, rfl, hM, hK, hF⟩; have HM4 := Aside0.mk (And.intro hM (in_open hM)); have HK4 := Aside0.mk hK; have HF4 := Aside0.mk hF; clear hM hK hF; dsimp only)
      | (refine wpList_store_row rfl 41 _ _ rfl w4.heap.size _ rfl rfl 41 _ (heap_alloc_new w4 (.cells inCells0 41)) HM4.out.2.2.2.2.2.2.2.1 HM4.out.2.2.2.2.2.2.2.2.1 HM4.out.2.2.2.2.2.2.2.2.2.1 ?_))
    obtain ⟨B, hB⟩ : ∃ B, B = w4.heap.size := ⟨_, rfl⟩
    obtain ⟨W5, hW5⟩ : ∃ W : World, W = (w4.alloc (.cells inCells0 41)).setRow w4.heap.size cs4.toArray := ⟨_, rfl⟩
    have hb5 : Below w4.heap.size w4 W5 := by rw [hW5]; exact setRow_below (below_alloc (Below.refl _ _) _) (Nat.le_refl _) _
    have HB5 := Aside0.mk (show W5.heap[B]? = some (.cells cs4.toArray 41 (0, 0)) by rw [hW5, hB]; exact setRow_block (heap_alloc_new w4 _))
    have HK5 := Aside0.mk (HK4.out.below hb5)
    have HM5 := Aside0.mk (Kd.M_below HM4.out.1 hb5)
    have HF5 := Aside0.mk (show Fr (okC C F) wr W5 from HF4.out.trans (Fr.of_below (fun _ => False) hb5) (fun _ _ e => e.elim))
    have HS5 := Aside0.mk (show w.heap.size ≤ W5.heap.size from Nat.le_trans HR.out.fr.size HF5.out.size)
    have HR5 := Aside0.mk (show kIn.R 41 W5 w.heap.size (fun k => w.heap.size ≤ k) v acc from Kd.R_step HR.out.row (fun k hk hlt => HF5.out.block k hlt (fun e => by have := HCF.out; rcases e with e | e <;> omega)))
    have HFw := Aside0.mk (show Fr (okC C F) w W5 from HR.out.fr.trans HF5.out (fun k _ e => e))
    have HIO := Aside0.mk HM4.out.2
    refine wp_wld (w2 := W5) (by rw [hW5]; rfl) ?_
    rw [← hB]
    clear hB hW5 hb5 HM4 HK4 HF4 HN
    cases hok : r.1.ok with
    | false =>
      have hal : s1.all most = ([], s1) := CoS.all_no (by rw [hr]; exact hok)
      have hst : r = (⟨noIn, false⟩, s1) := by rw [← hr]; exact CoS.next_stay most hfo (by rw [hr]; exact hok)
      have HF1 := Aside0.mk (show (s.all most).1 = acc by have := HR.out.one; rw [hal] at this; simpa using this.symm)
      have HF2 := Aside0.mk (show (s.all most).2 = s1 by have := HR.out.two; rw [hal] at this; exact this.symm)
      rw [hst] at HK5
      clear hr hal hst hok hk hks hq hfo
      go_wp2
      go_ret2
      exact ⟨v, rfl, by rw [HF1.out]; exact HR5.out, by rw [HF2.out]; exact HK5.out, HFw.out⟩
    | true =>
      have hal := CoS.all_ok (most := most) hfo (by rw [hr]; exact hok)
      have hlf := CoS.left_next most hfo (by rw [hr]; exact hok)
      rw [hr] at hal hlf
      obtain ⟨q1, rfl⟩ : ∃ q1, gk = q1 + 1 := ⟨gk - 1, by omega⟩
      have HAL := Aside0.mk hal
      have HLF := Aside0.mk hlf
      have hk6 : k ≤ 1000000 := by omega
      have ek : wrap64 ((k : Int) + 1) = (k : Int) + 1 := by unfold wrap64; omega
      clear hr hal hok hk hks hq hfo hlf
      go_wp2_with (first
        | (refine wpList_load_row rfl 41 _ rfl B rfl 41 _ (0, 0) _ HB5.out Tryz.underlying41 rfl HIO.out.2.2.2.2.2.2.1 ?_)
        | (refine wpList_buildOne rfl 28 41 _ rfl cs4 rfl (.agg inCells0) 28 352 Tryz.underlying28 infoIn rfl (by have := HIO.out.2.2.2.2.2.2.2.2.2; simpa using this) (by decide) (by decide) ?_)
        | (at_builtin; go_loud (refine Kd.R_append kIn (w0 := W5) (W := W5) w.heap.size rfl (.tmp 23) (.tmp 25) 28 41 (.agg inCells0) 352 rfl Tryz.underlying28 infoIn rfl (by decide) (by omega) _ acc r.1.i cs4 (fun k => w.heap.size ≤ k) (fun k => wr.heap.size ≤ k) rfl rfl (kIn.M_lower HR.out.fr.size (kIn.M_mono (fun k hk => hk.2.1) (kIn.M_bound HM5.out))) ?okp ?fresh HR5.out (Below.refl _ _) HS5.out ?hl ?_)))
      case okp => exact fun k hk => ⟨Nat.le_trans HR.out.fr.size hk, fun e => by obtain ⟨_, ho⟩ := Kd.R_own HR.out.row; have := own_lt ho k e.symm; omega⟩
      case fresh => exact fun k hk => Nat.le_trans HS5.out hk
      case hl => have := HKK.out.1; omega
      intro v1 w6 hR hb6 hg6 hat6
      have HR6 := Aside0.mk hR
      have HG6 := Aside0.mk (show ∀ k, k < w.heap.size → w6.heap[k]? = W5.heap[k]? from fun k hk => hg6.block k (Nat.lt_of_lt_of_le hk HS5.out) (fun e => by have := HR5.out.1 k e.symm; omega))
      have HA6 := Aside0.mk (show AllAt w0 w base C F most pat s w6 v1 (acc ++ [r.1.i]) r.2 from by
        have hb := hg6.block
        have hlo : ∀ k, k < w.heap.size → w6.heap[k]? = W5.heap[k]? := HG6.out
        have hfr : Fr (okC C F) w w6 := ⟨hb6.os.trans HFw.out.os, hb6.tape.trans HFw.out.tape, hb6.output.trans HFw.out.output, Nat.le_trans HS5.out hg6.size, fun k hk hn => (hlo k hk).trans (HFw.out.block k hk hn)⟩
        refine ⟨⟨?_, ?_⟩, hR, hfr, ?_, ?_⟩
        · exact HK5.out.co.frm (ok := fun k => some k = v.ownBlock) ⟨hg6.os, hg6.tape, hg6.output, hg6.size, fun k hk hn => hg6.block k hk hn⟩ (fun k hk e => by
            obtain ⟨_, ho⟩ := Kd.R_own HR5.out
            obtain ⟨cells, hc⟩ := own_typed ho k e.symm
            exact ⟨cells, _, hc, by decide, by decide, by decide, by decide⟩)
        · exact HK5.out.bel.trans (hb6.mono HWS.out)
        · have h1 := HR.out.one; rw [HAL.out] at h1; rw [List.append_assoc]; exact h1
        · have h2 := HR.out.two; rw [HAL.out] at h2; exact h2)
      clear hR hb6 hg6 hat6
      go_wp2_with fail
      go_roundg q1
      case measure => exact Nat.lt_succ_self _
      case rel => exact ⟨k + 1, acc ++ [r.1.i], r.2, _, rfl, by rw [show (((k + 1 : Nat) : Int)) = (k : Int) + 1 by omega], by rw [List.length_append, HKK.out.1]; rfl, by have := HKK.out; have := HLF.out; omega, by have := HKK.out; have := HLF.out; omega, HA6⟩
end Go.Proofs.YthlbcgaegaoanaaGreatDoor.Cr

namespace Go.Proofs.YthlbcgaegaoanaaGreatDoor.Cr
open Go Go.RowKit Go.Proofs.YthlbcgaegaoanaaGreatDoorW.PrintWords Go.Proofs.YthlbcgaegaoanaaGreatDoorW.PrintLast Go.Proofs.YthlbcgaegaoanaaGreatDoorW.PrintMore Go.Proofs.YthlbcgaegaoanaaGreatDoor.Kinds Go.Proofs.YthlbcgaegaoanaaGreatDoor.Utf Go.Proofs.YthlbcgaegaoanaaGreatDoor.Chk Go.Proofs.YthlbcgaegaoanaaGreatDoor.Rdr
set_option linter.unusedVariables false
set_option linter.unusedSimpArgs false
theorem own_C {w : World} {base : Nat} {v : Value} {xs : List Int} (h : w.ownsRow base 5 1 v xs.length (nums .u8 xs)) : ∃ A c, v = .slice A xs.length c ∧ (Kd.int .u8).C w A xs.length xs := by
  obtain ⟨A, c, he, _, hc⟩ := Kd.R_reads (show (Kd.int .u8).R 5 w base (fun _ => True) v xs from Kd.R_of_own h (fun _ _ => trivial))
  exact ⟨A, c, he, hc⟩
theorem in_cells {W w0 : World} {I base : Nat} {ok : Nat → Prop} {i : InV} {cs : List Value} (h : kIn.M w0 base ok i cs) (hI : W.heap[I]? = some (.cells cs.toArray 41 (0, 0))) :
    W.cell? ⟨I, 0, none⟩ = some (.int .i64 i.what) ∧ W.cell? ⟨I, 1, none⟩ = some (.int .i64 i.p.kind) ∧ W.cell? ⟨I, 26, none⟩ = some (.int .i64 i.code) ∧ W.cell? ⟨I, 27, none⟩ = some (.int .i64 i.err) := by
  have h2 := in_open h
  exact ⟨(blk_cell hI 0).trans h2.1, (blk_cell hI 1).trans h2.2.1, (blk_cell hI 26).trans h2.2.2.2.2.1, (blk_cell hI 27).trans h2.2.2.2.2.2.1⟩
theorem new_left (b : List Int) : (CoS.new.push b).left = b.length + 1 := by
  unfold CoS.left CoS.push CoS.new FrS.put FrS.new
  simp
theorem new_len (b : List Int) : (CoS.new.push b).fr.b.length = b.length := by
  unfold CoS.push CoS.new FrS.put FrS.new
  simp
theorem new_ok {b : List Int} (h : Bytes b) : (CoS.new.push b).fr.Ok := CoS.push_ok FrS.Ok.new h
theorem CoS.all_len {most : Int} : ∀ (k : Nat) {s : CoS}, s.left ≤ k → s.fr.Ok → (s.all most).1.length ≤ s.left := by
  intro k
  induction k with
  | zero =>
    intro s hk h
    have hn : (s.next most).1.ok = false := by
      cases e : (s.next most).1.ok with
      | false => rfl
      | true => have := CoS.left_next most h e; omega
    rw [CoS.all_no hn]; simp
  | succ k ih =>
    intro s hk h
    cases e : (s.next most).1.ok with
    | false => rw [CoS.all_no e]; simp
    | true =>
      have hs := CoS.left_next most h e
      rw [CoS.all_ok h e]
      have := ih (s := (s.next most).2) (by omega) (CoS.next_ok most h)
      simp only [List.length_cons]; omega
set_option maxRecDepth 100000 in
set_option maxHeartbeats 4000000 in
theorem order_any {w : World} (hg : Gl w) (most : Int) (b : List Int) (A : Option Addr) (n c : Nat) (hn : n = b.length) (hr : (Kd.int .u8).C w A b.length b) (hb : Bytes b) :
    Calls Tryz.prog 4 #[.int .i64 most, .slice A n c] w fun e w' => e = .returned (.bool true) ∧ Below w.heap.size w w' := by
  subst hn
  have HG := Aside0.mk hg
  have HRB := Aside0.mk hr
  have HBB := Aside0.mk hb
  clear hg hr hb
  go_enter Tryz.func4, Tryz.ntmps4
  go_upto_region 3 with (go_at_call 12; (with_reducible refine (known_any HG.out).mono ?_); rintro e w1 ⟨rfl, hB⟩; have HB := Aside0.mk hB; clear hB)
  by_cases hlen : 65536 < b.length
  · have t1 : decide (65536 < (b.length : Int)) = true := decide_eq_true (by omega)
    clear hlen
    go_wp2
    go_ret
    exact ⟨rfl, HB.out⟩
  · have t1 : decide (65536 < (b.length : Int)) = false := decide_eq_false (by omega)
    have HL := Aside0.mk (show b.length ≤ 65536 by omega)
    clear hlen
    go_upto_region 8 with (go_at_call 13; refine (keep_new most 0 _).mono ?_; rintro e w2 ⟨C, F, rfl, hK⟩; have HK2 := Aside0.mk hK; clear hK)
    go_wp2_with (at_builtin; go_loud (refine print_append_row (w0 := w2) w2.heap.size rfl (.const (.slice none 0 0)) (.tmp 21) 22 5 .u8 1 rfl Tryz.underlying22 infoU8 (by omega) (.slice none 0 0) [] b A b.length c rfl rfl (own_nil _ _ _ _) (Kd.reads_of_C (d := (0 : Int)) (Kd.C_below (Kd.C_below HRB.out HB.out) HK2.out.bel)) (Below.refl _ _) (Nat.le_refl _) (by have := HL.out; simp; omega) ?_))
    intro v1 w3 hown hb3 hg3 hat3
    obtain ⟨A3, c3, rfl, hC3⟩ := own_C hown
    have HC3 := Aside0.mk hC3
    have HK3 := Aside0.mk (HK2.out.below hb3)
    clear hown hb3 hg3 hat3 hC3
    have hn1 : wrap64 ((b.length : Int) + 1) = (b.length : Int) + 1 := by have := HL.out; unfold wrap64; omega
    go_upto_region 9 with (go_at_call 14; refine (keep_push HK3.out (Nat.le_refl _) b _ _ _ rfl HC3.out HBB.out (by have := HL.out; show 0 + b.length ≤ _; omega) _ rfl).mono ?_; rintro e w4 ⟨rfl, hK, _⟩; have HK4 := Aside0.mk hK; clear hK)
    obtain ⟨s, hs⟩ : ∃ s, s = CoS.new.push b := ⟨_, rfl⟩
    obtain ⟨l, hl⟩ : ∃ l, l = (s.all most).1 := ⟨_, rfl⟩
    obtain ⟨s2, hs2⟩ : ∃ s2, s2 = (s.all most).2 := ⟨_, rfl⟩
    have hord := CoS.order (most := most) s.left 0 (Nat.le_refl _) (by rw [hs]; exact new_ok HBB.out) (by rw [hs]; exact .inr rfl)
    rw [← hl, ← hs2] at hord
    have hll : l.length ≤ 65537 := by
      have := CoS.all_len (most := most) s.left (Nat.le_refl s.left) (by rw [hs]; exact new_ok HBB.out)
      rw [hs, new_left] at this
      have := HL.out
      rw [hl, hs]; omega
    have HORD := Aside0.mk hord
    have HLL := Aside0.mk hll
    have HALL := Aside0.mk (show Calls Tryz.prog 15 #[.pointer (some ⟨C, 0, none⟩), .int .i64 ((b.length : Int) + 1)] w4 fun e w' => ∃ v, e = .returned (.tuple #[v, .bool true]) ∧ kIn.R 41 w' w4.heap.size (fun k => w4.heap.size ≤ k) v l ∧ Keep w1 w1.heap.size C F most (max 0 0) s2 w' ∧ Fr (okC C F) w4 w' by
      rw [hl, hs2]
      have h4 := HK4.out
      rw [← hs] at h4
      have hb := HL.out
      exact all_any (HG.out.below HB.out HG.out.sz HB.out.size) h4 (Nat.le_refl _) _ (by rw [hs, new_left]; omega) (by rw [hs, new_left]; omega) (by omega))
    clear hord hll hs hl hs2
    go_upto_region 12 with (go_at_call 15; (with_reducible refine (HALL.out).mono ?_); rintro e w5 ⟨v, rfl, hR, hK, _⟩; have HR5 := Aside0.mk hR; have HK5 := Aside0.mk hK; clear hR hK; dsimp only)
    obtain ⟨A5, c5, hv5⟩ := Kd.R_slice HR5.out
    subst hv5
    clear hn1
    go_wp2_with fail
    go_loopg [8] l.length (fun q i wr => ∃ k : Nat, k + q = l.length ∧ i = .int .i64 (k : Int) ∧ Aside0 (Below w5.heap.size w5 wr))
    case atStart => exact ⟨0, by omega, rfl, Aside0.mk (Below.refl _ _)⟩
    case round =>
      obtain ⟨k, hkq, rfl, HBR⟩ := hrel
      rcases Nat.lt_or_ge k l.length with hk | hk
      · have t0 : decide ((k : Int) < (l.length : Int)) = true := decide_eq_true (by omega)
        have hkl := HLL.out
        have ek : wrap64 ((k : Int) + 1) = (k : Int) + 1 := by unfold wrap64; omega
        have el : wrap64 ((l.length : Int) - 1) = (l.length : Int) - 1 := by unfold wrap64; omega
        obtain ⟨q1, rfl⟩ : ∃ q1, gk = q1 + 1 := ⟨gk - 1, by omega⟩
        have hRr := Kd.R_below HR5.out HBR.out
        obtain ⟨g1, n1', hx1, _⟩ := Kd.R_form hRr (by omega)
        injection hx1 with a1 a2 a3
        subst a1
        first | subst a2 | subst a3
        obtain ⟨cs, hcl, hM, hc, _⟩ := Kd.R_elem hRr noIn (k : Int) (by omega) (by omega)
        simp only [Int.toNat_natCast] at hM hc
        obtain ⟨x, hx⟩ : ∃ x, x = l.getD k noIn := ⟨_, rfl⟩
        rw [← hx] at hM
        have hxe : l[k]? = some x := by rw [hx, List.getD_eq_getElem?_getD, List.getElem?_eq_getElem hk]; rfl
        have hO := HORD.out k x hxe
        rw [Nat.zero_add] at hO
        have HM := Aside0.mk hM
        have HIO := Aside0.mk (in_open hM)
        have HC := Aside0.mk (show wr.rangeAt g1 (k * 28) cs from hc)
        have HLN := Aside0.mk (show (Tryz.prog.info? 41).map (·.size) = some cs.length by rw [show cs.length = 28 from hcl]; exact inSize)
        have HOO := Aside0.mk hO
        have HKQ := Aside0.mk hkq
        have HKB := Aside0.mk hkl
        have hki : (k : Int) < (l.length : Int) := by omega
        have hk0 : (0 : Int) ≤ (k : Int) := by omega
        clear hRr hcl hM hc hx hxe hO hkq hkl hk
        go_upto_region 16 with (first
          | (refine wpList_load_mid rfl 41 (.tmp 42) rfl g1 (k * 28) rfl cs _ HC.out Tryz.underlying41 rfl HLN.out ?_)
          | (refine wpList_store_row rfl 41 _ _ rfl wr.heap.size _ rfl rfl 41 _ (heap_alloc_new wr (.cells inCells0 41)) HIO.out.2.2.2.2.2.2.1 HIO.out.2.2.2.2.2.2.2.1 HIO.out.2.2.2.2.2.2.2.2.1 ?_))
        obtain ⟨B, hB⟩ : ∃ B, B = wr.heap.size := ⟨_, rfl⟩
        obtain ⟨W5, hW5⟩ : ∃ W : World, W = (wr.alloc (.cells inCells0 41)).setRow wr.heap.size cs.toArray := ⟨_, rfl⟩
        have hb5 : Below wr.heap.size wr W5 := by rw [hW5]; exact setRow_below (below_alloc (Below.refl _ _) _) (Nat.le_refl _) _
        have hB5 : W5.heap[B]? = some (.cells cs.toArray 41 (0, 0)) := by rw [hW5, hB]; exact setRow_block (heap_alloc_new wr _)
        obtain ⟨b0, b1, b26, _⟩ := in_cells HM.out hB5
        have HB5 := Aside0.mk (HBR.out.trans (hb5.mono HBR.out.size))
        have HOV := Aside0.mk (HK5.out.below HB5.out)
        refine wp_wld (w2 := W5) (by rw [hW5]; rfl) ?_
        rw [← hB]
        clear hB hW5 hb5 hB5 HC HM HIO HLN
        have hO := HOO.out
        obtain ⟨o1, o2, o3, o4, o5, o6, o7, o8, o9⟩ := hO
        have t21 : (x.p.kind == 2) = false := beq_eq_false_iff_ne.2 o6
        have t22 : (x.p.kind == 9) = false := beq_eq_false_iff_ne.2 o7
        have t23 : (x.p.kind == 11) = false := beq_eq_false_iff_ne.2 o8
        have t24 : (x.p.kind == 13) = false := beq_eq_false_iff_ne.2 o9
        have tr1 : decide (x.what < 1) = false := decide_eq_false (by omega)
        have tr2 : decide (3 < x.what) = false := decide_eq_false (by omega)
        have hfin : ∀ (h : x.what ≠ 1 ∨ x.p.kind = 14), decide ((k : Int) < (l.length : Int) - 1) = false ∧ (s2.st == 2) = true := fun h => by
          have := o3 h
          have h1 : k + 1 = l.length := by simpa using this.1
          exact ⟨decide_eq_false (by omega), this.2⟩
        have HKQ2 := HKQ
        by_cases w1' : x.what = 1
        · have tw1 : (x.what != 1) = false := by simp [w1']
          have tw1' : (x.what == 1) = true := by simp [w1']
          have tw2 : (x.what == 2) = false := by simp [w1']
          obtain ⟨bb, hbb⟩ : ∃ bb : Bool, bb = (x.p.kind == 1) := ⟨_, rfl⟩
          have tk1 := hbb.symm
          have tk0 : ((k : Int) == 0) = bb := by
            rw [hbb]
            by_cases e : k = 0
            · have := (o4 w1').1 e; simp [e, this]
            · have : x.p.kind ≠ 1 := fun h => e ((o4 w1').2 h)
              rw [beq_eq_false_iff_ne.2 this]; simp [e]
          have tq : (bb != bb) = false := by cases bb <;> rfl
          by_cases k14 : x.p.kind = 14
          · have tk14 : (x.p.kind == 14) = true := by simp [k14]
            obtain ⟨tl, tov⟩ := hfin (.inr k14)
            clear o1 o2 o3 o4 o5 o6 o7 o8 o9 hfin w1' k14 hbb hki hk0
            go_wp2_with (first
              | (go_at_call 17; (with_reducible refine (keep_over HOV.out true tov).mono ?_); rintro e w2 ⟨rfl, rfl⟩))
            go_roundg q1
            case measure => exact Nat.lt_succ_self _
            case rel => exact ⟨k + 1, by have := HKQ.out; omega, by rw [show (((k + 1 : Nat) : Int)) = (k : Int) + 1 by omega]; try rw [ek], HB5⟩
          · have tk14 : (x.p.kind == 14) = false := by simp [k14]
            clear o1 o2 o3 o4 o5 o6 o7 o8 o9 hfin w1' k14 hbb hki hk0
            go_wp2
            go_roundg q1
            case measure => exact Nat.lt_succ_self _
            case rel => exact ⟨k + 1, by have := HKQ.out; omega, by rw [show (((k + 1 : Nat) : Int)) = (k : Int) + 1 by omega]; try rw [ek], HB5⟩
        · have tw1 : (x.what != 1) = true := by simp [w1']
          have tw1' : (x.what == 1) = false := by simp [w1']
          obtain ⟨tl, tov⟩ := hfin (.inl w1')
          by_cases w2' : x.what = 2
          · have tw2 : (x.what == 2) = true := by simp [w2']
            have tk0 : decide (0 < (k : Int)) = false := decide_eq_false (by have := (o5 w2').1; omega)
            have tk0n : decide (0 < k) = false := decide_eq_false (by have := (o5 w2').1; omega)
            have tcd : (x.code != 1) = false := by simp [(o5 w2').2]
            clear o1 o2 o3 o4 o5 o6 o7 o8 o9 hfin w1' w2' hki hk0
            go_wp2_with (first
              | (go_at_call 17; (with_reducible refine (keep_over HOV.out true tov).mono ?_); rintro e w2 ⟨rfl, rfl⟩))
            go_roundg q1
            case measure => exact Nat.lt_succ_self _
            case rel => exact ⟨k + 1, by have := HKQ.out; omega, by rw [show (((k + 1 : Nat) : Int)) = (k : Int) + 1 by omega]; try rw [ek], HB5⟩
          · have tw2 : (x.what == 2) = false := by simp [w2']
            clear o1 o2 o3 o4 o5 o6 o7 o8 o9 hfin w1' w2' hki hk0
            go_wp2_with (first
              | (go_at_call 17; (with_reducible refine (keep_over HOV.out true tov).mono ?_); rintro e w2 ⟨rfl, rfl⟩))
            go_roundg q1
            case measure => exact Nat.lt_succ_self _
            case rel => exact ⟨k + 1, by have := HKQ.out; omega, by rw [show (((k + 1 : Nat) : Int)) = (k : Int) + 1 by omega]; try rw [ek], HB5⟩
      · have t0 : decide ((k : Int) < (l.length : Int)) = false := decide_eq_false (by omega)
        have t0n : decide (k < l.length) = false := decide_eq_false (by omega)
        clear hkq hk
        go_wp2
        go_ret
        exact ⟨rfl, HB.out.trans ((HK5.out.bel.mono HB.out.size).trans (HBR.out.mono (Nat.le_trans HB.out.size HK5.out.bel.size)))⟩
end Go.Proofs.YthlbcgaegaoanaaGreatDoor.Cr

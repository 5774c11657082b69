/- A Connect's and a Pingreq's bytes, read: plain facts by computing. No statement of the program. Connections that are told a Connect and Pingreqs: plain. No statement of the program. crierlaw14.known: chapter 14's examples hold. No statement of the program. -/
import Derived.Test.YthlbcgaegaoanaaGreatDoorMCo
namespace Go.Proofs.YthlbcgaegaoanaaGreatDoor.Cr
open Go Go.RowKit Go.Proofs.YthlbcgaegaoanaaGreatDoorW.PrintWords Go.Proofs.YthlbcgaegaoanaaGreatDoorW.PrintLast Go.Proofs.YthlbcgaegaoanaaGreatDoorW.PrintMore Go.Proofs.YthlbcgaegaoanaaGreatDoor.Kinds Go.Proofs.YthlbcgaegaoanaaGreatDoor.Utf Go.Proofs.YthlbcgaegaoanaaGreatDoor.Chk Go.Proofs.YthlbcgaegaoanaaGreatDoor.Rdr
set_option linter.unusedVariables false
set_option linter.unusedSimpArgs false
theorem pkt_eq {p q : Pkt} (h0 : p.kind = q.kind) (h1 : p.level = q.level) (h2 : p.clean = q.clean) (h3 : p.keep = q.keep) (h4 : p.client = q.client) (h5 : p.hasWill = q.hasWill) (h6 : p.will = q.will) (h7 : p.hasUser = q.hasUser) (h8 : p.user = q.user) (h9 : p.hasPass = q.hasPass) (h10 : p.pass = q.pass)
    (h11 : p.present = q.present) (h12 : p.code = q.code) (h13 : p.dup = q.dup) (h14 : p.msg = q.msg) (h15 : p.id = q.id) (h16 : p.asks = q.asks) (h17 : p.codes = q.codes) (h18 : p.filters = q.filters) : p = q := by
  cases p; cases q
  simp only at h0 h1 h2 h3 h4 h5 h6 h7 h8 h9 h10 h11 h12 h13 h14 h15 h16 h17 h18
  subst h0 h1 h2 h3 h4 h5 h6 h7 h8 h9 h10 h11 h12 h13 h14 h15 h16 h17 h18
  rfl
theorem msg_eq {p q : Msg} (h0 : p.topic = q.topic) (h1 : p.payload = q.payload) (h2 : p.qos = q.qos) (h3 : p.retain = q.retain) : p = q := by
  cases p; cases q
  simp only at h0 h1 h2 h3
  subst h0 h1 h2 h3
  rfl
def conPkt (k : Int) : Pkt := { noPkt with kind := 1, level := 4, clean := true, keep := k }
def conBytes (a b : Int) : List Int := [16, 12, 0, 4, 77, 81, 84, 84, 4, 2, a, b, 0, 0]
theorem con_wt (a b : Int) : (fFields [0, 4, 77, 81, 84, 84, 4, 2, a, b, 0, 0] 1 0).p.will.topic = ByteArray.mk #[] := by kernel_rfl
theorem con_wp (a b : Int) : (fFields [0, 4, 77, 81, 84, 84, 4, 2, a, b, 0, 0] 1 0).p.will.payload = [] := by kernel_rfl
theorem con_wq0 : wrap64 (bits .and .u8 2 24 / 8) = 0 := by
  have h : bits .and .u8 2 24 = 0 := by kernel_rfl
  rw [h]; unfold wrap64; omega
theorem con_wq (a b : Int) : (fFields [0, 4, 77, 81, 84, 84, 4, 2, a, b, 0, 0] 1 0).p.will.qos = 0 :=
  (show (fFields [0, 4, 77, 81, 84, 84, 4, 2, a, b, 0, 0] 1 0).p.will.qos = wrap64 (bits .and .u8 2 24 / 8) by kernel_rfl).trans con_wq0
theorem con_wr (a b : Int) : (fFields [0, 4, 77, 81, 84, 84, 4, 2, a, b, 0, 0] 1 0).p.will.retain = false := by kernel_rfl
theorem con_fields (a b : Int) : (fFields [0, 4, 77, 81, 84, 84, 4, 2, a, b, 0, 0] 1 0).p = conPkt (joinG [a, b]) :=
  pkt_eq (by kernel_rfl) (by kernel_rfl) (by kernel_rfl) (by kernel_rfl) (by kernel_rfl) (by kernel_rfl) (msg_eq (con_wt a b) (con_wp a b) (con_wq a b) (con_wr a b)) (by kernel_rfl) (by kernel_rfl) (by kernel_rfl) (by kernel_rfl) (by kernel_rfl) (by kernel_rfl) (by kernel_rfl) (by kernel_rfl) (by kernel_rfl) (by kernel_rfl) (by kernel_rfl) (by kernel_rfl)
theorem con_f (a b : Int) : (fFields [0, 4, 77, 81, 84, 84, 4, 2, a, b, 0, 0] 1 0).f = none := by kernel_rfl
theorem con_bad (a b : Int) : (fFields [0, 4, 77, 81, 84, 84, 4, 2, a, b, 0, 0] 1 0).bad = none := by kernel_rfl
theorem con_head (a b : Int) : headP (conBytes a b) (topP 1000) = (2, 12, none) := by kernel_rfl
theorem con_check (k : Int) (h0 : 0 ≤ k) (h1 : k ≤ 65535) : pchk (conPkt k) = 0 := by
  have c0 : ck0 (conPkt k) = (decide (k < 0) || decide (65535 < k)) := by kernel_rfl
  have c1 : ck1 (conPkt k) = false := by kernel_rfl
  have c2 : ck2 (conPkt k) = false := by kernel_rfl
  have c3 : filtersB (conPkt k) = true := by kernel_rfl
  have c4 : qualB (conPkt k) = true := by kernel_rfl
  have c5 : ck5 (conPkt k) = false := by kernel_rfl
  have c6 : ck6 (conPkt k) = false := by kernel_rfl
  have c7 : ck7 (conPkt k) = false := by kernel_rfl
  have c8 : ck8 (conPkt k) = false := by kernel_rfl
  have ck : isKindB (conPkt k).kind = true := by kernel_rfl
  have e : (decide (k < 0) || decide (65535 < k)) = false := by simp; omega
  unfold pchk
  rw [ck, c0, c1, c2, c3, c4, c5, c6, c7, c8, e]
  rfl
theorem con_dec (a b : Int) (h0 : 0 ≤ joinG [a, b]) (h1 : joinG [a, b] ≤ 65535) : decP (conBytes a b) 1000 = ⟨conPkt (joinG [a, b]), 14, none⟩ := by
  unfold decP
  rw [con_head]
  unfold decF
  have e0 : ((conBytes a b).drop (2 : Int).toNat).take (12 : Int).toNat = [0, 4, 77, 81, 84, 84, 4, 2, a, b, 0, 0] := by kernel_rfl
  have e1 : rd (conBytes a b) 0 / 16 = 1 := by kernel_rfl
  have e2 : rd (conBytes a b) 0 % 16 = 0 := by kernel_rfl
  have e3 : ((conBytes a b).length : Int) = 14 := by kernel_rfl
  rw [if_neg (by simp), if_neg (by rw [e3]; simp)]
  dsimp only
  rw [e0, e1, e2]
  rw [con_fields, con_f, con_bad]
  dsimp only [Option.or]
  rw [if_pos (con_check _ h0 h1)]
  rfl
theorem join_two (a b : Int) (ha0 : 0 ≤ a) (ha : a ≤ 255) (hb0 : 0 ≤ b) (hb : b ≤ 255) : joinG [a, b] = a * 256 + b := by
  have h1 := join_step 0 a (by decide) (by decide) ha0 (by omega)
  have h2 := join_step a b ha0 (Int.lt_of_le_of_lt ha (by decide)) hb0 (by omega)
  simp only [Int.zero_mul, Int.zero_add] at h1
  unfold joinG
  simp only [List.foldl_cons, List.foldl_nil]
  rw [show (0 : Int) * 256 = 0 from rfl, h1]
  exact h2
def pingPkt : Pkt := { noPkt with kind := 12 }
theorem ping_dec : decP [192, 0] 1000 = ⟨pingPkt, 2, none⟩ := by kernel_rfl
theorem ping_half : decP [192] 1000 = ⟨noPkt, 0, none⟩ := by kernel_rfl
end Go.Proofs.YthlbcgaegaoanaaGreatDoor.Cr

namespace Go.Proofs.YthlbcgaegaoanaaGreatDoor.Cr
open Go Go.RowKit Go.Proofs.YthlbcgaegaoanaaGreatDoorW.PrintWords Go.Proofs.YthlbcgaegaoanaaGreatDoorW.PrintLast Go.Proofs.YthlbcgaegaoanaaGreatDoorW.PrintMore Go.Proofs.YthlbcgaegaoanaaGreatDoor.Kinds Go.Proofs.YthlbcgaegaoanaaGreatDoor.Utf Go.Proofs.YthlbcgaegaoanaaGreatDoor.Chk Go.Proofs.YthlbcgaegaoanaaGreatDoor.Rdr
set_option linter.unusedVariables false
set_option linter.unusedSimpArgs false
def kS (b : List Int) (sp kp si : Int) : CoS := ⟨1, ⟨b, sp, none⟩, kp, si⟩
theorem bytes_con {a b : Int} (ha0 : 0 ≤ a) (ha : a ≤ 255) (hb0 : 0 ≤ b) (hb : b ≤ 255) : Bytes (conBytes a b) := by
  intro x hx
  simp only [conBytes, List.mem_cons, List.not_mem_nil, or_false] at hx
  omega
theorem co_first {a b : Int} (ha0 : 0 ≤ a) (ha : a ≤ 255) (hb0 : 0 ≤ b) (hb : b ≤ 255) (k : Int) (hk : a * 256 + b = k) (m : List Int) (hm : Bytes m) : (CoS.new.push (conBytes a b ++ m)).next 1000 = (⟨⟨1, conPkt k, 0, 0⟩, true⟩, kS m 14 k 0) := by
  have hj := join_two a b ha0 ha hb0 hb
  have hd := con_dec a b (by omega) (by omega)
  have hw := bytes_con ha0 ha hb0 hb
  have hd2 : decP (conBytes a b ++ m) 1000 = ⟨conPkt k, 14, none⟩ := by
    rw [decP_app (conBytes a b) m 1000 (fun i => hw.at_ i) (by rw [hd]; intro h; exact absurd (show (14 : Int) = 0 from h.1) (by decide)), hd, hj, hk]
  have e0 : CoS.new.push (conBytes a b ++ m) = ⟨0, ⟨conBytes a b ++ m, 0, none⟩, 0, 0⟩ := by
    unfold CoS.push CoS.new
    rw [if_neg (by decide)]
    unfold FrS.put FrS.new
    simp
  have e1 : (⟨conBytes a b ++ m, 0, none⟩ : FrS).next 1000 = (⟨conPkt k, true, none⟩, ⟨m, 14, none⟩) := by
    rw [FrS.next_none 1000 rfl]
    unfold nextF
    rw [hd2]
    simp only [if_neg (show ¬ (14 : Int) = 0 by decide)]
    have : (conBytes a b ++ m).drop (14 : Int).toNat = m := by
      rw [List.drop_left' (by rfl)]
    rw [this]
    congr 2
    unfold wrap64; omega
  rw [e0]
  unfold CoS.next
  simp only [if_neg (show ¬ (0 : Int) = 2 by decide), e1]
  have e2 : nextA 0 ⟨conPkt k, true, none⟩ = ⟨⟨1, conPkt k, 0, 0⟩, true⟩ := by
    unfold nextA judgeP
    simp [conPkt, noPkt]
  rw [e2]
  simp only [if_true]
  congr 1
  unfold tookP kS
  simp only [if_neg (show ¬ (0 : Int) = 2 by decide), if_true]
  rw [if_pos (show (conPkt k).kind = 1 from rfl)]
  have : min (max (conPkt k).keep 0) 65535 = k := by
    show min (max k 0) 65535 = k
    omega
  rw [this]
theorem co_half (sp kp si : Int) : (kS [192] sp kp si).next 1000 = (⟨noIn, false⟩, kS [192] sp kp si) := by
  have e1 : (⟨[192], sp, none⟩ : FrS).next 1000 = (⟨noPkt, false, none⟩, ⟨[192], sp, none⟩) := by
    rw [FrS.next_none 1000 rfl]
    unfold nextF
    rw [ping_half]
    simp
  unfold CoS.next kS
  simp only [if_neg (show ¬ (1 : Int) = 2 by decide), e1]
  simp [nextA]
theorem co_ping (sp kp si : Int) : (kS [192, 0] sp kp si).next 1000 = (⟨⟨1, pingPkt, 0, 0⟩, true⟩, kS [] (wrap64 (sp + 2)) kp 0) := by
  have e1 : (⟨[192, 0], sp, none⟩ : FrS).next 1000 = (⟨pingPkt, true, none⟩, ⟨[], wrap64 (sp + 2), none⟩) := by
    rw [FrS.next_none 1000 rfl]
    unfold nextF
    rw [ping_dec]
    simp
  unfold CoS.next kS
  simp only [if_neg (show ¬ (1 : Int) = 2 by decide), e1]
  have e2 : nextA 1 ⟨pingPkt, true, none⟩ = ⟨⟨1, pingPkt, 0, 0⟩, true⟩ := by
    unfold nextA judgeP
    simp [pingPkt, noPkt]
  rw [e2]
  simp only [if_true]
  congr 1
theorem co_early : (CoS.new.push [192, 0]).next 1000 = (⟨⟨3, noPkt, 0, 140⟩, true⟩, ⟨2, ⟨[], 2, none⟩, 0, 0⟩) := by
  have e0 : CoS.new.push [192, 0] = ⟨0, ⟨[192, 0], 0, none⟩, 0, 0⟩ := rfl
  have e1 : (⟨[192, 0], 0, none⟩ : FrS).next 1000 = (⟨pingPkt, true, none⟩, ⟨[], 2, none⟩) := by
    rw [FrS.next_none 1000 rfl]
    unfold nextF
    rw [ping_dec]
    simp
    unfold wrap64; omega
  rw [e0]
  unfold CoS.next
  simp only [if_neg (show ¬ (0 : Int) = 2 by decide), e1]
  have e2 : nextA 0 ⟨pingPkt, true, none⟩ = ⟨⟨3, noPkt, 0, 140⟩, true⟩ := by
    unfold nextA judgeP
    simp [pingPkt, noPkt]
  rw [e2]
  simp only [if_true]
  congr 1
theorem co_push (b l : List Int) (sp kp si : Int) : (kS b sp kp si).push l = kS (b ++ l) sp kp si := by
  unfold CoS.push kS
  rw [if_neg (show ¬ (1 : Int) = 2 by decide)]
  unfold FrS.put
  simp
theorem co_tick (b : List Int) (sp kp si pat : Int) (h0 : 0 < kp) (h1 : kp ≤ 65535) (h2 : 0 ≤ si) (h3 : si ≤ 1000000) : (kS b sp kp si).tick pat = (decide (kp / 2 < si + 1 - kp), kS b sp kp (si + 1)) := by
  unfold CoS.tick kS
  simp only [if_neg (show ¬ (1 : Int) = 2 by decide)]
  have e1 : wrap64 (si + 1) = si + 1 := by unfold wrap64; omega
  rw [e1]
  unfold lateB
  rw [if_pos rfl]
  have e2 : kp.tdiv 2 = kp / 2 := Int.tdiv_eq_ediv_of_nonneg (by omega)
  have e3 : wrap64 (kp / 2) = kp / 2 := by unfold wrap64; omega
  have e4 : wrap64 (si + 1 - kp) = si + 1 - kp := by unfold wrap64; omega
  rw [e2, e3, e4, decide_eq_true h0]
  simp
end Go.Proofs.YthlbcgaegaoanaaGreatDoor.Cr

namespace Go.Proofs.YthlbcgaegaoanaaGreatDoor.Cr
open Go Go.RowKit Go.Proofs.YthlbcgaegaoanaaGreatDoorW.PrintWords Go.Proofs.YthlbcgaegaoanaaGreatDoorW.PrintLast Go.Proofs.YthlbcgaegaoanaaGreatDoorW.PrintMore Go.Proofs.YthlbcgaegaoanaaGreatDoor.Kinds Go.Proofs.YthlbcgaegaoanaaGreatDoor.Utf Go.Proofs.YthlbcgaegaoanaaGreatDoor.Chk Go.Proofs.YthlbcgaegaoanaaGreatDoor.Rdr
set_option linter.unusedVariables false
set_option linter.unusedSimpArgs false
theorem C_lit (W : World) (xs : List Int) (hm : xs.length ≤ 9223372036854775807) : (Kd.int .u8).C (W.alloc (.cells (nums .u8 xs).toArray 5)) (some ⟨W.heap.size, 0, none⟩) xs.length xs := by
  obtain ⟨A, c, he, _, hc⟩ := Kd.R_reads (show (Kd.int .u8).R 5 (W.alloc (.cells (nums .u8 xs).toArray 5)) 0 (fun _ => True) (.slice (some ⟨W.heap.size, 0, none⟩) xs.length xs.length) xs from
    Kd.R_of_own (own_lit W 0 5 .u8 xs (Nat.zero_le _) hm) (fun _ _ => trivial))
  injection he with h1 h2 h3
  subst h1
  exact hc
theorem in_open {w : World} {base : Nat} {ok : Nat → Prop} {i : InV} {cs : List Value} (h : kIn.M w base ok i cs) : cs.toArray[0]? = some (.int .i64 i.what) ∧ cs.toArray[1]? = some (.int .i64 i.p.kind) ∧ cs.toArray[3]? = some (.bool i.p.clean) ∧ cs.toArray[4]? = some (.int .i64 i.p.keep) ∧ cs.toArray[26]? = some (.int .i64 i.code) ∧ cs.toArray[27]? = some (.int .i64 i.err) ∧
    (Tryz.prog.info? 41).map (·.size) = some cs.toArray.size ∧ inCells0.size = cs.toArray.size ∧ cs.toArray.all (·.oneCell') = true ∧ cs.toArray.size = 28 := by
  obtain ⟨pc, rfl, hp⟩ := in_M h
  obtain ⟨vw, vp, vm, va, vc, vf, rfl, _⟩ := pkt_M hp
  exact ⟨rfl, rfl, rfl, rfl, rfl, rfl, inC_size i hp, inC_sz2 i hp, inC_one i hp, rfl⟩
section
variable {w w1 : World} {base C F : Nat} {most pat : Int} {s : CoS}
theorem CoIs.high {ok : Nat → Prop} (h : CoIs w base C F most pat s) (hf : Fr ok w w1) (hok : ∀ k, ok k → k < base) : CoIs w1 base C F most pat s := by
  obtain ⟨v, ev, h1, h2, h3⟩ := h.fr.ex
  have hn : ∀ k, base ≤ k → ¬ ok k := fun k hk e => by have := hok k e; omega
  refine ⟨(hf.block C (blk_lt h.self) (hn C h.ge)).trans h.self, ⟨⟨v, ev, (hf.block F (blk_lt h1) (hn F h.fr.ge)).trans h1, ?_, ?_⟩, h.fr.ge, h.fr.ok⟩, h.ge⟩
  · exact Kd.V_mono (Kd.V_step (Kd.V_bound h2) (fun k hk hlt => hf.block k hlt (hn k hk.1.1))) (fun k hk => ⟨hk.1.1, by
      obtain ⟨cells, hc⟩ := hk.1.2
      exact ⟨cells, (hf.block k hk.2 (hn k hk.1.1)).trans hc⟩⟩)
  · cases he : s.fr.err with
    | none => rw [he] at h3; exact h3
    | some q =>
      rw [he] at h3
      obtain ⟨G, rfl, hG, hb⟩ := h3
      exact ⟨G, rfl, (hf.block G (blk_lt hG) (hn G hb)).trans hG, hb⟩
end
structure Keep (w0 : World) (base C F : Nat) (most pat : Int) (s : CoS) (w : World) : Prop where
  co : CoIs w base C F most pat s
  bel : Below w0.heap.size w0 w
theorem Keep.below {w0 w w1 : World} {base C F : Nat} {most pat : Int} {s : CoS} (h : Keep w0 base C F most pat s w) (hb : Below w.heap.size w w1) : Keep w0 base C F most pat s w1 := ⟨h.co.below hb, h.bel.trans (hb.mono h.bel.size)⟩
theorem Keep.call {w0 w w1 : World} {base C F : Nat} {most pat : Int} {s s2 : CoS} (h : Keep w0 base C F most pat s w) (hb : w0.heap.size ≤ base) (hc : CoIs w1 base C F most pat s2) (hf : Fr (okC C F) w w1) : Keep w0 base C F most pat s2 w1 :=
  ⟨hc, hf.below h.bel (fun k e => by have := h.co.ge; have := h.co.fr.ge; rcases e with e | e <;> omega) h.bel.size⟩
section
variable {w0 w : World} {base C F : Nat} {most pat : Int} {s : CoS}
theorem keep_next (hg : Gl w0) (h : Keep w0 base C F most pat s w) (hb0 : w0.heap.size ≤ base) (r : CA × CoS) (hr : s.next most = r) (hlen : s.fr.b.length ≤ 1099511627770) :
    Calls Tryz.prog 18 #[.pointer (some ⟨C, 0, none⟩)] w fun e w' => ∃ cs : List Value, e = .returned (.tuple #[.agg cs.toArray, .bool r.1.ok]) ∧ kIn.M w' w.heap.size (fun _ => True) r.1.i cs ∧ Keep w0 base C F most pat r.2 w' ∧ Fr (okC C F) w w' := by
  subst hr
  exact (coNext_any (hg.below h.bel hg.sz h.bel.size) h.co hlen (Nat.le_trans hg.sz hb0)).mono fun e w' ⟨cs, h1, h2, h3, h4⟩ => ⟨cs, h1, h2, h.call hb0 h3 h4, h4⟩
theorem keep_push (h : Keep w0 base C F most pat s w) (hb0 : w0.heap.size ≤ base) (l : List Int) (A : Option Addr) (n c : Nat) (hn : n = l.length) (hr : (Kd.int .u8).C w A l.length l) (hb : ∀ x ∈ l, 0 ≤ x ∧ x ≤ 255) (hlen : s.fr.b.length + l.length ≤ 1099511627776) (s2 : CoS) (hs : s.push l = s2) :
    Calls Tryz.prog 14 #[.pointer (some ⟨C, 0, none⟩), .slice A n c] w fun e w' => e = .returned (.tuple #[]) ∧ Keep w0 base C F most pat s2 w' ∧ Fr (okC C F) w w' := by
  subst hn hs
  exact (push_any h.co l A c hr hb hlen).mono fun e w' ⟨h1, h2, h3⟩ => ⟨h1, h.call hb0 h2 (h3.mono (fun k _ e => .inr e)), h3.mono (fun k _ e => .inr e)⟩
theorem keep_tick (h : Keep w0 base C F most pat s w) (hb0 : w0.heap.size ≤ base) (r : Bool × CoS) (hr : s.tick pat = r) :
    Calls Tryz.prog 19 #[.pointer (some ⟨C, 0, none⟩)] w fun e w' => e = .returned (.bool r.1) ∧ Keep w0 base C F most pat r.2 w' ∧ Fr (okC C F) w w' := by
  subst hr
  exact (tick_any h.co).mono fun e w' ⟨h1, h2, h3⟩ => ⟨h1, h.call hb0 h2 (h3.mono (fun k _ e => .inl e)), h3.mono (fun k _ e => .inl e)⟩
theorem keep_over (h : Keep w0 base C F most pat s w) (b : Bool) (hb : (s.st == 2) = b) :
    Calls Tryz.prog 17 #[.pointer (some ⟨C, 0, none⟩)] w fun e w' => e = .returned (.bool b) ∧ w = w' := by
  subst hb
  exact over_any h.co
theorem keep_new (most pat : Int) (w : World) :
    Calls Tryz.prog 13 #[.int .i64 most, .int .i64 pat] w fun e w' => ∃ C F, e = .returned (.pointer (some ⟨C, 0, none⟩)) ∧ Keep w w.heap.size C F most (max pat 0) CoS.new w' :=
  (coNew_any most pat w).mono fun e w' ⟨C, F, h1, h2, h3⟩ => ⟨C, F, h1, h2, h3⟩
end
theorem con_bytes0 : Bytes (conBytes 0 10 ++ [192]) := (bytes_con (by decide) (by decide) (by decide) (by decide)).app (by intro x hx; simp only [List.mem_cons, List.not_mem_nil, or_false] at hx; omega)
theorem one_byte (x : Int) (h0 : 0 ≤ x) (h1 : x ≤ 255) : Bytes [x] := by intro y hy; simp only [List.mem_cons, List.not_mem_nil, or_false] at hy; omega
theorem ping_bytes : Bytes [192, 0] := by intro y hy; simp only [List.mem_cons, List.not_mem_nil, or_false] at hy; omega
set_option maxRecDepth 100000 in
set_option maxHeartbeats 4000000 in
theorem known_any {w : World} (hg : Gl w) : Calls Tryz.prog 12 #[] w fun e w' => e = .returned (.bool true) ∧ Below w.heap.size w w' := by
  have HG := Aside0.mk hg
  clear hg
  go_enter Tryz.func12, Tryz.ntmps12
  go_upto_region 5 with (first
    | (go_at_call 13; refine (keep_new 1000 0 _).mono ?_; rintro e w1 ⟨C, F, rfl, hK⟩; have HK1 := Aside0.mk hK; clear hK)
    | (go_at_call 17; refine (keep_over HK1.out false rfl).mono ?_; rintro e w2 ⟨rfl, rfl⟩)
    | (go_at_call 14; refine (keep_push (HK1.out.below (below_alloc (Below.refl _ _) _)) (Nat.le_refl _) (conBytes 0 10 ++ [192]) _ _ _ rfl (C_lit _ (conBytes 0 10 ++ [192]) (by decide)) con_bytes0 (by decide) _ rfl).mono ?_; rintro e w3 ⟨rfl, hK, _⟩; have HK3 := Aside0.mk hK; clear hK))
  go_upto_region 6 with (first
    | (go_at_call 18; refine (keep_next HG.out HK3.out (Nat.le_refl _) _ (co_first (a := 0) (b := 10) (by decide) (by decide) (by decide) (by decide) 10 rfl [192] (one_byte 192 (by decide) (by decide))) (by decide)).mono ?_; rintro e w4 ⟨cs4, rfl, hM, hK, _⟩; have HM4 := Aside0.mk (in_open hM); have HK4 := Aside0.mk hK; clear hM hK; dsimp only)
    | (refine wpList_store_row rfl 41 _ _ rfl w4.heap.size _ rfl rfl 41 _ (heap_alloc_new w4 (.cells inCells0 41)) HM4.out.2.2.2.2.2.2.1 HM4.out.2.2.2.2.2.2.2.1 HM4.out.2.2.2.2.2.2.2.2.1 ?_))
  obtain ⟨B, hB⟩ : ∃ B, B = w4.heap.size := ⟨_, rfl⟩
  obtain ⟨W5, hW5⟩ : ∃ W : World, W = (w4.alloc (.cells inCells0 41)).setRow w4.heap.size cs4.toArray := ⟨_, rfl⟩
  have hb5 : Below w4.heap.size w4 W5 := by rw [hW5]; exact setRow_below (below_alloc (Below.refl _ _) _) (Nat.le_refl _) _
  have hB5 : W5.heap[B]? = some (.cells cs4.toArray 41 (0, 0)) := by rw [hW5, hB]; exact setRow_block (heap_alloc_new w4 _)
  have HK5 := Aside0.mk (HK4.out.below hb5)
  have HBN := Aside0.mk (show ¬ okC C F B from by
    rintro (e | e)
    · have := blk_lt HK4.out.co.self; omega
    · have := HK4.out.co.fr.lt; omega)
  have HB5 := Aside0.mk hB5
  have HBW := Aside0.mk (show w.heap.size ≤ B from by rw [hB]; exact HK4.out.bel.size)
  have b0 : W5.cell? ⟨B, 0, none⟩ = some (.int .i64 1) := (blk_cell hB5 0).trans HM4.out.1
  have b1 : W5.cell? ⟨B, 1, none⟩ = some (.int .i64 1) := (blk_cell hB5 1).trans HM4.out.2.1
  have b3 : W5.cell? ⟨B, 3, none⟩ = some (.bool true) := (blk_cell hB5 3).trans HM4.out.2.2.1
  have b4 : W5.cell? ⟨B, 4, none⟩ = some (.int .i64 10) := (blk_cell hB5 4).trans HM4.out.2.2.2.1
  refine wp_wld (w2 := W5) (by rw [hW5]; rfl) ?_
  rw [← hB]
  clear hB hW5 hb5 hB5
  go_upto_region 8 with fail
  clear b0 b1 b3 b4
  go_upto_region 11 with (first
    | (go_at_call 18; refine (keep_next HG.out HK5.out (Nat.le_refl _) _ (co_half 14 10 0) (by decide)).mono ?_; rintro e w6 ⟨cs6, rfl, hM, hK, hF⟩; have HK6 := Aside0.mk hK; have HB6 := Aside0.mk ((hF.block B (blk_lt HB5.out) HBN.out).trans HB5.out); clear hM hK hF HK5; dsimp only)
    | (go_at_call 14; refine (keep_push (HK6.out.below (below_alloc (Below.refl _ _) _)) (Nat.le_refl _) [0] _ _ _ rfl (C_lit _ [0] (by decide)) (one_byte 0 (by decide) (by decide)) (by decide) _ (co_push [192] [0] 14 10 0)).mono ?_; rintro e w7 ⟨rfl, hK, hF⟩; have HK7 := Aside0.mk hK; have HB7 := Aside0.mk ((hF.block B (by simp; have := blk_lt HB6.out; omega) HBN.out).trans ((heap_alloc_old _ _ (blk_lt HB6.out)).trans HB6.out)); clear hK hF HK6)
    | (go_at_call 18; refine (keep_next HG.out HK7.out (Nat.le_refl _) _ (co_ping 14 10 0) (by decide)).mono ?_; rintro e w8 ⟨cs8, rfl, hM, hK, hF⟩; have HM8 := Aside0.mk (in_open hM); have HK8 := Aside0.mk hK; have HB8 := Aside0.mk ((hF.block B (blk_lt HB7.out) HBN.out).trans HB7.out); clear hM hK hF HK7; dsimp only)
    | (refine wpList_store_row rfl 41 _ _ rfl B _ rfl rfl 41 _ HB8.out HM8.out.2.2.2.2.2.2.1 (HM4.out.2.2.2.2.2.2.2.2.2.trans HM8.out.2.2.2.2.2.2.2.2.2.symm) HM8.out.2.2.2.2.2.2.2.2.1 ?_))
  obtain ⟨W9, hW9⟩ : ∃ W : World, W = w8.setRow B cs8.toArray := ⟨_, rfl⟩
  have hB9 : W9.heap[B]? = some (.cells cs8.toArray 41 (0, 0)) := by rw [hW9]; exact setRow_block HB8.out
  have hK9 : Keep w w.heap.size C F 1000 (max 0 0) (kS [] (wrap64 (14 + 2)) 10 0) W9 := by
    rw [hW9]
    exact ⟨HK8.out.co.frm (setRow_fr w8 B _) (fun k hk e => ⟨_, _, e ▸ HB8.out, by decide, by decide, by decide, by decide⟩), setRow_below HK8.out.bel HBW.out _⟩
  have HK9 := Aside0.mk hK9
  have b0 : W9.cell? ⟨B, 0, none⟩ = some (.int .i64 1) := (blk_cell hB9 0).trans HM8.out.1
  have b1 : W9.cell? ⟨B, 1, none⟩ = some (.int .i64 12) := (blk_cell hB9 1).trans HM8.out.2.1
  refine wp_wld (w2 := W9) (by rw [hW9]) ?_
  clear hW9 hB9 hK9
  go_upto_region 13 with fail
  clear b0 b1
  go_wp2_with fail
  go_loopg [5] 15 (fun q i wr => ∃ k : Nat, k + q = 15 ∧ i = .int .i64 (k : Int) ∧ Aside0 (Keep w w.heap.size C F 1000 (max 0 0) (kS [] (wrap64 (14 + 2)) 10 (k : Int)) wr))
  case atStart => exact ⟨0, rfl, rfl, HK9⟩
  case round =>
    obtain ⟨k, hkq, rfl, HKR⟩ := hrel
    rcases Nat.lt_or_ge k 15 with hk | hk
    · have t0 : decide ((k : Int) < 15) = true := decide_eq_true (by omega)
      have ek : wrap64 ((k : Int) + 1) = ((k + 1 : Nat) : Int) := by unfold wrap64; omega
      obtain ⟨q1, rfl⟩ : ∃ q1, gk = q1 + 1 := ⟨gk - 1, by omega⟩
      have HT := Aside0.mk (co_tick [] (wrap64 (14 + 2)) 10 (k : Int) (max 0 0) (by decide) (by decide) (by omega) (by omega))
      have HTF := Aside0.mk (show decide ((10 : Int) / 2 < (k : Int) + 1 - 10) = false from decide_eq_false (by omega))
      go_wp2_with (go_at_call 19; refine (keep_tick HKR.out (Nat.le_refl _) _ HT.out).mono ?_; rintro e w10 ⟨rfl, hK, _⟩; have HK10 := Aside0.mk hK; clear hK; dsimp only; rw [HTF.out])
      go_roundg q1
      case measure => exact Nat.lt_succ_self _
      case rel => exact ⟨k + 1, by omega, by rw [show (((k + 1 : Nat) : Int)) = (k : Int) + 1 by omega], by rw [show (((k + 1 : Nat) : Int)) = (k : Int) + 1 by omega]; exact HK10⟩
    · have t0 : decide ((k : Int) < 15) = false := decide_eq_false (by omega)
      have hk15 : k = 15 := by omega
      subst hk15
      have HGR := Aside0.mk (HG.out.below HKR.out.bel HG.out.sz HKR.out.bel.size)
      clear hkq
      go_upto_region 21 with (first
        | (go_at_call 13; refine (keep_new 1000 0 _).mono ?_; rintro e w11 ⟨D, G, rfl, hK⟩; have HD1 := Aside0.mk hK; clear hK)
        | (go_at_call 14; refine (keep_push (HD1.out.below (below_alloc (Below.refl _ _) _)) (Nat.le_refl _) [192, 0] _ _ _ rfl (C_lit _ [192, 0] (by decide)) ping_bytes (by decide) _ rfl).mono ?_; rintro e w12 ⟨rfl, hK, _⟩; have HD2 := Aside0.mk hK; clear hK)
        | (go_at_call 18; refine (keep_next HGR.out HD2.out (Nat.le_refl _) _ co_early (by decide)).mono ?_; rintro e w13 ⟨cs13, rfl, hM, hK, _⟩; have HM13 := Aside0.mk (in_open hM); have HD3 := Aside0.mk hK; clear hM hK; dsimp only)
        | (refine wpList_store_row rfl 41 _ _ rfl w13.heap.size _ rfl rfl 41 _ (heap_alloc_new w13 (.cells inCells0 41)) HM13.out.2.2.2.2.2.2.1 HM13.out.2.2.2.2.2.2.2.1 HM13.out.2.2.2.2.2.2.2.2.1 ?_))
      obtain ⟨B2, hB2⟩ : ∃ B, B = w13.heap.size := ⟨_, rfl⟩
      obtain ⟨W14, hW14⟩ : ∃ W : World, W = (w13.alloc (.cells inCells0 41)).setRow w13.heap.size cs13.toArray := ⟨_, rfl⟩
      have hb14 : Below w13.heap.size w13 W14 := by rw [hW14]; exact setRow_below (below_alloc (Below.refl _ _) _) (Nat.le_refl _) _
      have hB14 : W14.heap[B2]? = some (.cells cs13.toArray 41 (0, 0)) := by rw [hW14, hB2]; exact setRow_block (heap_alloc_new w13 _)
      have hD14 := HD3.out.below hb14
      have hC14 : Keep w w.heap.size C F 1000 (max 0 0) (kS [] (wrap64 (14 + 2)) 10 ((15 : Nat) : Int)) W14 := HKR.out.below hD14.bel
      have HT := Aside0.mk (co_tick [] (wrap64 (14 + 2)) 10 ((15 : Nat) : Int) (max 0 0) (by decide) (by decide) (by decide) (by decide))
      have HTF := Aside0.mk (show decide ((10 : Int) / 2 < ((15 : Nat) : Int) + 1 - 10) = true from decide_eq_true (by decide))
      have HC14 := Aside0.mk hC14
      have HD14 := Aside0.mk hD14
      have HB14 := Aside0.mk hB14
      have hCl : C < wr.heap.size ∧ F < wr.heap.size := ⟨blk_lt HKR.out.co.self, HKR.out.co.fr.lt⟩
      have HCL := Aside0.mk hCl
      have HB2 := Aside0.mk (show wr.heap.size ≤ B2 from by rw [hB2]; exact HD3.out.bel.size)
      refine wp_wld (w2 := W14) (by rw [hW14]; rfl) ?_
      rw [← hB2]
      clear hB2 hW14 hb14 hB14 hD14 hC14 hCl
      go_wp2_with (first
        | (go_at_call 19; refine (keep_tick HC14.out (Nat.le_refl _) _ HT.out).mono ?_; rintro e w15 ⟨rfl, hK, hF⟩; have HK15 := Aside0.mk hK; have hB15 := (hF.block B2 (blk_lt HB14.out) (by have h1 := HCL.out; have h2 := HB2.out; rintro (e | e) <;> omega)).trans HB14.out; have b0 : w15.cell? ⟨B2, 0, none⟩ = some (.int .i64 3) := (blk_cell hB15 0).trans HM13.out.1; have b27 : w15.cell? ⟨B2, 27, none⟩ = some (.int .i64 140) := (blk_cell hB15 27).trans HM13.out.2.2.2.2.2.1; have HD15 := Aside0.mk (HD14.out.co.high hF (by have h1 := HCL.out; rintro k (e | e) <;> omega)); clear hK hF hB15; dsimp only; rw [HTF.out])
        | (go_at_call 17; refine (over_any HD15.out).mono ?_; rintro e w16 ⟨rfl, rfl⟩))
      go_ret
      exact ⟨rfl, HK15.out.bel⟩
end Go.Proofs.YthlbcgaegaoanaaGreatDoor.Cr

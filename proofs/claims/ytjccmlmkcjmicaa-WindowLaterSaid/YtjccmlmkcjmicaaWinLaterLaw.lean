/- Plain law and memory of WindowLater: what a good image needs; two windows beside one another. No walk. -/
import Derived.Test.YtjccmlmkcjmicaaWinOf
import Derived.Test.YtjccmlmkcjmicaaWinSameW
namespace Go.Proofs.Ytjccmlmkcjmicaa.Win
open Go Go.RowKit Go.Maps Go.MapKept Go.ChangeMaps Go.Proofs.YtjccmlmkcjmicaaW.PrintWords Go.Proofs.Ytjccmlmkcjmicaa.Kinds
set_option linter.unusedVariables false

/-- what holds of a window that is told a script without Reserve -/
structure LInv (s : WS) : Prop where
  inv : WInv s
  pl : WPl s
  D : s.D = .map []
  qw : ∀ m ∈ s.waits, sendB m = true
  qf : ∀ f ∈ s.flights, (f.released = true → f.msg = noMsg) ∧ (f.released = false → sendB f.msg = true)
/-- the part that calls keep by itself -/
structure QInv (s : WS) : Prop where
  qw : ∀ m ∈ s.waits, sendB m = true
  qf : ∀ f ∈ s.flights, (f.released = true → f.msg = noMsg) ∧ (f.released = false → sendB f.msg = true)
theorem launch_q {s : WS} (h : QInv s) (m : Msg) (hm : sendB m = true) : QInv (launchS s m) :=
  ⟨h.qw, fun f hf => by
    rcases List.mem_append.1 (show f ∈ s.flights ++ [⟨nextN s, m, false⟩] from hf) with h1 | h1
    · exact h.qf f h1
    · rw [List.mem_singleton] at h1; subst h1; exact ⟨fun e => (by cases e), fun _ => hm⟩⟩
theorem fillF_q : ∀ (n : Nat) (s : WS), s.waits.length = n → QInv s → QInv (fillF s).2
  | n, s, hn, h => by
    by_cases hg : s.online = true ∧ (s.flights.length : Int) < s.window ∧ s.waits ≠ []
    · obtain ⟨ho, hl, hw⟩ := hg
      obtain ⟨m, r, hwr⟩ := List.exists_cons_of_ne_nil hw
      rw [fillF_step s m r hwr ⟨ho, hl⟩]
      have hlen : r.length < n := by rw [← hn, hwr]; simp
      have h' : QInv { s with waits := r } := ⟨fun x hx => h.qw x (by rw [hwr]; exact List.mem_cons_of_mem _ hx), h.qf⟩
      exact fillF_q r.length (launchS { s with waits := r } m) rfl (launch_q h' m (h.qw m (by rw [hwr]; exact List.mem_cons_self)))
    · rw [fillF_end s hg]; exact h
  termination_by n => n
theorem sendF_q {s : WS} (h : QInv s) (m : Msg) : QInv (sendF s m).s := by
  unfold sendF
  cases hb : sendB m
  · rw [if_pos rfl]; exact h
  · rw [if_neg (by simp)]
    split
    · exact launch_q h m hb
    · split
      · refine ⟨fun x hx => ?_, h.qf⟩
        rcases List.mem_append.1 (show x ∈ s.waits ++ [m] from hx) with h2 | h2
        · exact h.qw x h2
        · rw [List.mem_singleton] at h2; subst h2; exact hb
      · exact h
theorem ackF_q {s : WS} (h : QInv s) (kind id : Int) : QInv (ackF s kind id).2 := by
  unfold ackF
  split
  · exact h
  · split
    · exact fillF_q _ _ rfl ⟨h.qw, fun f hf => h.qf f (List.mem_of_mem_eraseIdx hf)⟩
    · split
      · refine ⟨h.qw, fun f hf => ?_⟩
        rcases List.mem_or_eq_of_mem_set (show f ∈ s.flights.set _ _ from hf) with h2 | h2
        · exact h.qf f h2
        · subst h2; exact ⟨fun _ => rfl, fun e => by cases e⟩
      · exact h
theorem playF_q {s : WS} (h : QInv s) (o : OpV) : QInv (playF s o).2 := by
  unfold playF
  repeat' split
  · exact sendF_q h _
  · exact ackF_q h _ _
  · exact fillF_q _ { s with online := true } rfl ⟨h.qw, h.qf⟩
  · exact ⟨h.qw, h.qf⟩
  · unfold resS; split
    · exact ⟨h.qw, h.qf⟩
    · exact h
  · exact ⟨h.qw, h.qf⟩
  · exact h
  · exact ackF_q h _ _
  · exact h
theorem LInv.q {s : WS} (h : LInv s) : QInv s := ⟨h.qw, h.qf⟩
theorem LInv.play {s : WS} (h : LInv s) (o : OpV) (hm : Short o.m) (h5 : o.kind ≠ 5) : LInv (playF s o).2 := by
  have hq := playF_q h.q o
  refine ⟨(playF_inv h.inv o).1, playF_pl h.pl o hm, ?_, hq.qw, hq.qf⟩
  by_cases h6 : o.kind = 6
  · unfold playF
    rw [h6]
    show s.D.del _ = _
    rw [h.D]; rfl
  · rw [playF_D h.inv o h5 h6]; exact h.D
theorem newS_linv (n q : Int) : LInv (newS n q) := ⟨newS_inv n q, newS_pl n q, rfl, fun m hm => by simp [newS] at hm, fun f hf => by simp [newS] at hf⟩
theorem LInv.img {s : WS} (h : LInv s) {n q : Int} (hw : s.window = clampI 1 65535 n) (hq : s.queue = clampI 0 65536 q) : ImgGood n q s.last s.flights s.waits :=
  ⟨h.inv.ok.l1, h.inv.ok.l2, h.inv.rng, h.inv.ids, fun f hf => (h.qf f hf).1, fun f hf => (h.qf f hf).2, h.pl.flights, h.qw, h.pl.waits, hw ▸ h.inv.flw, hq ▸ h.inv.wq⟩
theorem LInv.of {s : WS} (h : LInv s) {n q : Int} (hw : s.window = clampI 1 65535 n) (hq : s.queue = clampI 0 65536 q) : ofS n q s.last s.flights s.waits = { s with online := false } := by
  obtain ⟨a, b, c, d, e, f, g⟩ := s
  have hD : f = .map [] := h.D
  have hw' : a = clampI 1 65535 n := hw
  have hq' : b = clampI 0 65536 q := hq
  subst hD hw' hq'
  rfl

/-! ### packets of a window have no lists -/
def Bare (p : Pkt) : Prop := p.asks = [] ∧ p.codes = [] ∧ p.filters = []
theorem bare_pktOf (f : Flt) (b : Bool) : Bare (pktOf f b) := by unfold pktOf; split <;> exact ⟨rfl, rfl, rfl⟩
theorem fillF_bare : ∀ (n : Nat) (s : WS), s.waits.length = n → ∀ p ∈ (fillF s).1, Bare p
  | n, s, hn => by
    by_cases hg : s.online = true ∧ (s.flights.length : Int) < s.window ∧ s.waits ≠ []
    · obtain ⟨ho, hl, hw⟩ := hg
      obtain ⟨m, r, hwr⟩ := List.exists_cons_of_ne_nil hw
      rw [fillF_step s m r hwr ⟨ho, hl⟩]
      have hlen : r.length < n := by rw [← hn, hwr]; simp
      intro p hp
      rcases List.mem_cons.1 hp with h1 | h1
      · rw [h1]; exact bare_pktOf _ _
      · exact fillF_bare r.length (launchS { s with waits := r } m) rfl p h1
    · rw [fillF_end s hg]
      intro p hp
      cases hp
  termination_by n => n
theorem ackF_bare (s : WS) (kind id : Int) : ∀ p ∈ (ackF s kind id).1, Bare p := by
  unfold ackF
  split
  · intro p hp; cases hp
  · split
    · exact fillF_bare _ _ rfl
    · split
      · intro p hp
        rw [List.mem_singleton] at hp
        rw [hp]; exact bare_pktOf _ _
      · intro p hp; cases hp
theorem playF_bare (s : WS) (o : OpV) : ∀ p ∈ (playF s o).1, Bare p := by
  unfold playF
  repeat' split
  · dsimp only
    unfold sendF
    repeat' split
    all_goals
      intro p hp
      first
        | (cases hp; done)
        | (dsimp only at hp; rw [List.mem_singleton] at hp; rw [hp]; exact bare_pktOf _ _)
  · exact ackF_bare _ _ _
  · unfold upF
    intro p hp
    rcases List.mem_append.1 hp with h1 | h1
    · obtain ⟨f, _, rfl⟩ := List.mem_map.1 h1
      exact bare_pktOf _ _
    · exact fillF_bare _ { s with online := true } rfl p h1
  · intro p hp; cases hp
  · intro p hp; cases hp
  · intro p hp; cases hp
  · intro p hp; cases hp
  · exact ackF_bare _ _ _
  · intro p hp; cases hp

theorem sendF_len2 (s : WS) (m : Msg) : (sendF s m).ps.length ≤ 1 := by
  unfold sendF
  split
  · simp
  · split
    · simp
    · split <;> simp
theorem ackF_len2 {s : WS} (h : WOk s) (kind id : Int) : (ackF s kind id).1.length ≤ 65536 := by
  unfold ackF
  split
  · simp
  · split
    · exact fillF_len _ h.wl
    · split <;> simp
theorem upF_len2 {s : WS} (h : WOk s) : (upF s).1.length ≤ 131072 := by
  unfold upF
  have h1 := fillF_len { s with online := true } h.wl
  have h2 := h.fl
  simp only [List.length_append, List.length_map]
  omega
theorem playF_len2 {s : WS} (h : WOk s) (o : OpV) : (playF s o).1.length ≤ 131072 := by
  unfold playF
  repeat' split
  · have := sendF_len2 s o.m; dsimp only; omega
  · have := ackF_len2 h o.a o.n; omega
  · exact upF_len2 h
  · simp
  · simp
  · simp
  · simp
  · have := ackF_len2 h o.a (s.flights.getD (pickI o.n s.flights.length) noFlt).id; omega
  · simp

/-! ### two windows beside one another -/
structure TwoM (w wr : World) (B1 B2 : Nat) (s1 s2 : WS) (ok1 ok2 : Nat → Prop) : Prop where
  w1 : WinAt' wr w.heap.size ok1 B1 s1
  w2 : WinAt' wr w.heap.size ok2 B2 s2
  l1 : ∀ k, ok1 k → w.heap.size ≤ k ∧ k < wr.heap.size
  l2 : ∀ k, ok2 k → w.heap.size ≤ k ∧ k < wr.heap.size ∧ ¬ ok1 k
  bel : Below w.heap.size w wr
variable {w wr X : World} {B1 B2 : Nat} {s1 s2 s' : WS} {ok1 ok2 okp : Nat → Prop}
theorem TwoM.below (h : TwoM w wr B1 B2 s1 s2 ok1 ok2) (hb : Below wr.heap.size wr X) : TwoM w X B1 B2 s1 s2 ok1 ok2 :=
  ⟨h.w1.below hb, h.w2.below hb, fun k hk => ⟨(h.l1 k hk).1, Nat.lt_of_lt_of_le (h.l1 k hk).2 hb.size⟩, fun k hk => ⟨(h.l2 k hk).1, Nat.lt_of_lt_of_le (h.l2 k hk).2.1 hb.size, (h.l2 k hk).2.2⟩, h.bel.trans (hb.mono h.bel.size)⟩
theorem TwoM.swap (h : TwoM w wr B1 B2 s1 s2 ok1 ok2) : TwoM w wr B2 B1 s2 s1 ok2 ok1 :=
  ⟨h.w2, h.w1, fun k hk => ⟨(h.l2 k hk).1, (h.l2 k hk).2.1⟩, fun k hk => ⟨(h.l1 k hk).1, (h.l1 k hk).2, fun e => (h.l2 k e).2.2 hk⟩, h.bel⟩
/-- a call of the first -/
theorem TwoM.call {v : Value} {ps : List Pkt} (h : TwoM w wr B1 B2 s1 s2 ok1 ok2) (hF : FillAt wr w.heap.size ok1 B1 w v ps okp s' X) : TwoM w X B1 B2 s' s2 (fun k => okN ok1 wr X k ∧ ¬ okp k) ok2 := by
  have hsz := hF.fr.size
  refine ⟨hF.win, h.w2.fr hF.fr (fun k hk e => (h.l2 k hk).2.2 e), fun k hk => ?_, fun k hk => ⟨(h.l2 k hk).1, Nat.lt_of_lt_of_le (h.l2 k hk).2.1 hsz, fun e => ?_⟩, hF.bel⟩
  · rcases hk.1 with h1 | h1
    · exact ⟨(h.l1 k h1).1, Nat.lt_of_lt_of_le (h.l1 k h1).2 hsz⟩
    · exact ⟨Nat.le_trans h.bel.size h1.1, h1.2⟩
  · rcases e.1 with h1 | h1
    · exact (h.l2 k hk).2.2 h1
    · have := (h.l2 k hk).2.1; omega
end Go.Proofs.Ytjccmlmkcjmicaa.Win

/- Plain law: each message that a window takes is sent once, in order, and all at last. No walk. -/
import Derived.Test.YtjccmlmkcjmicaaWinHear
namespace Go.Proofs.Ytjccmlmkcjmicaa.Win
open Go Go.RowKit Go.Maps Go.MapKept Go.ChangeMaps Go.Proofs.YtjccmlmkcjmicaaW.PrintWords Go.Proofs.Ytjccmlmkcjmicaa.Kinds
set_option linter.unusedVariables false

/-- what has been taken is what has been sent, and what waits; qualities -/
structure OInv (s : WS) (taken sent : List Msg) : Prop where
  eq : taken = sent ++ s.waits
  fl : s.flights.length ≤ sent.length
  qw : ∀ m ∈ s.waits, sendB m = true
  qf : ∀ f ∈ s.flights, f.released = true ∨ sendB f.msg = true
theorem heard_append (a b : List Pkt) : heard (a ++ b) = heard a ++ heard b := by unfold heard; rw [List.filter_append, List.map_append]
theorem heard_cons (p : Pkt) (l : List Pkt) : heard (p :: l) = (if heardB p then [p.msg] else []) ++ heard l := by
  unfold heard
  cases h : heardB p <;> simp [h]
theorem heardB_again (f : Flt) : heardB (pktOf f true) = false := by unfold pktOf heardB; cases f.released <;> rfl
theorem heardB_rel (id : Int) (m : Msg) (b : Bool) : heardB (pktOf ⟨id, m, true⟩ b) = false := by unfold pktOf heardB; rfl
theorem heardB_new (id : Int) (m : Msg) : heardB (pktOf ⟨id, m, false⟩ false) = true ∧ (pktOf ⟨id, m, false⟩ false).msg = m := by unfold pktOf heardB; exact ⟨rfl, rfl⟩
theorem heard_again : ∀ l : List Flt, heard (l.map (fun f => pktOf f true)) = []
  | [] => rfl
  | f :: l => by rw [List.map_cons, heard_cons, heardB_again, heard_again l]; rfl
theorem fillF_oinv : ∀ (n : Nat) (s : WS) (taken sent : List Msg), s.waits.length = n → OInv s taken sent → OInv (fillF s).2 taken (sent ++ heard (fillF s).1)
  | n, s, taken, sent, hn, h => by
    by_cases hg : s.online = true ∧ (s.flights.length : Int) < s.window ∧ s.waits ≠ []
    · obtain ⟨ho, hl, hw⟩ := hg
      obtain ⟨m, r, hwr⟩ := List.exists_cons_of_ne_nil hw
      rw [fillF_step s m r hwr ⟨ho, hl⟩]
      have hlen : r.length < n := by rw [← hn, hwr]; simp
      have h1 : OInv (launchS { s with waits := r } m) taken (sent ++ [m]) := by
        refine ⟨by rw [h.eq, hwr]; simp [launchS], ?_, fun x hx => h.qw x (by rw [hwr]; exact List.mem_cons_of_mem _ hx), fun f hf => ?_⟩
        · have := h.fl
          simp only [launchS, List.length_append, List.length_singleton]; omega
        · rcases List.mem_append.1 (show f ∈ s.flights ++ [⟨nextN { s with waits := r }, m, false⟩] from hf) with h2 | h2
          · exact h.qf f h2
          · rw [List.mem_singleton] at h2; subst h2; exact .inr (h.qw m (by rw [hwr]; exact List.mem_cons_self))
      have := fillF_oinv r.length (launchS { s with waits := r } m) taken (sent ++ [m]) rfl h1
      dsimp only
      rw [heard_cons]
      unfold launchP
      rw [(heardB_new _ m).1, if_pos rfl, (heardB_new _ m).2]
      simpa using this
    · rw [fillF_end s hg]
      show OInv s taken (sent ++ [])
      rw [List.append_nil]; exact h
  termination_by n => n
theorem sendF_oinv {s : WS} {taken sent : List Msg} (hi : WInv s) (h : OInv s taken sent) (m : Msg) : OInv (sendF s m).s (taken ++ if (sendF s m).took then [m] else []) (sent ++ heard (sendF s m).ps) := by
  unfold sendF
  cases hb : sendB m
  · rw [if_pos rfl]
    show OInv s (taken ++ []) (sent ++ [])
    rw [List.append_nil, List.append_nil]; exact h
  · rw [if_neg (by simp)]
    by_cases hl : s.online = true ∧ (s.flights.length : Int) < s.window
    · rw [if_pos hl]
      have hw : s.waits = [] := by
        refine Classical.byContradiction (fun hw => ?_)
        have := hi.full hl.1 hw
        omega
      dsimp only
      unfold launchP
      rw [heard_cons, (heardB_new _ m).1, if_pos rfl, (heardB_new _ m).2]
      refine ⟨?_, ?_, fun x hx => ?_, fun f hf => ?_⟩
      · rw [h.eq, hw]; simp [launchS, hw, heard]
      · have := h.fl
        show (s.flights ++ [(⟨nextN s, m, false⟩ : Flt)]).length ≤ (sent ++ ([m] ++ [])).length
        simp only [List.length_append, List.length_singleton, List.length_nil]; omega
      · have : x ∈ s.waits := hx
        rw [hw] at this; cases this
      · rcases List.mem_append.1 (show f ∈ s.flights ++ [⟨nextN s, m, false⟩] from hf) with h2 | h2
        · exact h.qf f h2
        · rw [List.mem_singleton] at h2; subst h2; exact .inr hb
    · rw [if_neg hl]
      by_cases hq : (s.waits.length : Int) < s.queue
      · rw [if_pos hq]
        refine ⟨?_, ?_, fun x hx => ?_, h.qf⟩
        · show taken ++ [m] = (sent ++ []) ++ (s.waits ++ [m])
          rw [h.eq]; simp
        · show s.flights.length ≤ (sent ++ []).length
          rw [List.append_nil]; exact h.fl
        · rcases List.mem_append.1 (show x ∈ s.waits ++ [m] from hx) with h2 | h2
          · exact h.qw x h2
          · rw [List.mem_singleton] at h2; subst h2; exact hb
      · rw [if_neg hq]
        show OInv s (taken ++ []) (sent ++ [])
        rw [List.append_nil, List.append_nil]; exact h
theorem erase_oinv {s : WS} {taken sent : List Msg} (h : OInv s taken sent) (i : Nat) : OInv { s with flights := s.flights.eraseIdx i } taken sent :=
  ⟨h.eq, Nat.le_trans (List.length_eraseIdx_le ..) h.fl, h.qw, fun f hf => h.qf f (List.mem_of_mem_eraseIdx hf)⟩
theorem ackF_oinv {s : WS} {taken sent : List Msg} (h : OInv s taken sent) (kind id : Int) : OInv (ackF s kind id).2 taken (sent ++ heard (ackF s kind id).1) := by
  unfold ackF
  split
  · show OInv s taken (sent ++ []); rw [List.append_nil]; exact h
  · split
    · exact fillF_oinv _ _ _ _ rfl (erase_oinv h _)
    · split
      · show OInv _ taken (sent ++ heard [pktOf ⟨id, noMsg, true⟩ false])
        rw [heard_cons, heardB_rel]
        show OInv _ taken (sent ++ [])
        rw [List.append_nil]
        refine ⟨h.eq, ?_, h.qw, fun f hf => ?_⟩
        · show (s.flights.set _ _).length ≤ _
          rw [List.length_set]; exact h.fl
        · rcases List.mem_or_eq_of_mem_set (show f ∈ s.flights.set _ _ from hf) with h2 | h2
          · exact h.qf f h2
          · subst h2; exact .inl rfl
      · show OInv s taken (sent ++ []); rw [List.append_nil]; exact h
theorem upF_oinv {s : WS} {taken sent : List Msg} (h : OInv s taken sent) : OInv (upF s).2 taken (sent ++ heard (upF s).1) := by
  unfold upF
  dsimp only
  rw [heard_append, heard_again, List.nil_append]
  exact fillF_oinv _ { s with online := true } _ _ rfl ⟨h.eq, h.fl, h.qw, h.qf⟩
theorem playF_oinv {s : WS} {taken sent : List Msg} (h : OInv s taken sent) (o : OpV) (h1 : o.kind ≠ 1) : OInv (playF s o).2 taken (sent ++ heard (playF s o).1) := by
  have nil : ∀ s' : WS, s'.waits = s.waits → s'.flights = s.flights → OInv s' taken (sent ++ heard []) := fun s' hw hf => by
    show OInv s' taken (sent ++ []); rw [List.append_nil]
    exact ⟨hw ▸ h.eq, hf ▸ h.fl, hw ▸ h.qw, hf ▸ h.qf⟩
  unfold playF
  rw [if_neg h1]
  repeat' split
  · exact ackF_oinv h _ _
  · exact upF_oinv h
  · exact nil _ rfl rfl
  · refine nil _ ?_ ?_ <;> (unfold resS; split <;> rfl)
  · exact nil _ rfl rfl
  · exact nil _ rfl rfl
  · exact ackF_oinv h _ _
  · exact nil _ rfl rfl
theorem newS_oinv (n q : Int) : OInv (newS n q) [] [] := ⟨rfl, Nat.le_refl _, fun m hm => by simp [newS] at hm, fun f hf => by simp [newS] at hf⟩

/-! ### how many packets a call sends at most -/
theorem sendF_len (s : WS) (m : Msg) : (sendF s m).ps.length ≤ 1 := by
  unfold sendF
  split
  · simp
  · split
    · simp
    · split <;> simp
theorem ackF_len {s : WS} (h : WOk s) (kind id : Int) : (ackF s kind id).1.length ≤ 65536 := by
  unfold ackF
  split
  · simp
  · split
    · exact fillF_len _ h.wl
    · split <;> simp
theorem upF_len {s : WS} (h : WOk s) : (upF s).1.length ≤ 131072 := by
  unfold upF
  have h1 := fillF_len { s with online := true } h.wl
  have h2 := h.fl
  simp only [List.length_append, List.length_map]
  omega
theorem playF_len {s : WS} (h : WOk s) (o : OpV) : (playF s o).1.length ≤ 131072 := by
  unfold playF
  repeat' split
  · have := sendF_len s o.m; dsimp only; omega
  · have := ackF_len h o.a o.n; omega
  · exact upF_len h
  · simp
  · simp
  · simp
  · simp
  · have := ackF_len h o.a (s.flights.getD (pickI o.n s.flights.length) noFlt).id; omega
  · simp

/-! ### the acknowledgements: how many are needed at most -/
def needF (f : Flt) : Nat := if f.released = true then 1 else if f.msg.qos = 2 then 2 else 1
def needL (l : List Flt) : Nat := (l.map needF).sum
def need (s : WS) : Nat := needL s.flights + 2 * s.waits.length
theorem needF_le (f : Flt) : 1 ≤ needF f ∧ needF f ≤ 2 := by unfold needF; split; omega; split <;> omega
theorem needL_le : ∀ l : List Flt, needL l ≤ 2 * l.length
  | [] => Nat.le_refl _
  | f :: l => by
    have := needL_le l
    have := (needF_le f).2
    simp only [needL, List.map_cons, List.sum_cons, List.length_cons] at *
    omega
theorem needL_append (a b : List Flt) : needL (a ++ b) = needL a + needL b := by simp [needL]
theorem fillF_need : ∀ (n : Nat) (s : WS), s.waits.length = n → need (fillF s).2 ≤ need s
  | n, s, hn => by
    by_cases hg : s.online = true ∧ (s.flights.length : Int) < s.window ∧ s.waits ≠ []
    · obtain ⟨ho, hl, hw⟩ := hg
      obtain ⟨m, r, hwr⟩ := List.exists_cons_of_ne_nil hw
      rw [fillF_step s m r hwr ⟨ho, hl⟩]
      have hlen : r.length < n := by rw [← hn, hwr]; simp
      refine Nat.le_trans (fillF_need r.length (launchS { s with waits := r } m) rfl) ?_
      have := (needF_le ⟨nextN { s with waits := r }, m, false⟩).2
      have h1 : needL (launchS { s with waits := r } m).flights = needL s.flights + needF ⟨nextN { s with waits := r }, m, false⟩ := by
        show needL (s.flights ++ [(⟨nextN { s with waits := r }, m, false⟩ : Flt)]) = _
        rw [needL_append]
        simp [needL]
      have h2 : (launchS { s with waits := r } m).waits.length = r.length := rfl
      have h3 : s.waits.length = r.length + 1 := by rw [hwr]; rfl
      unfold need
      omega
    · rw [fillF_end s hg]; exact Nat.le_refl _
  termination_by n => n
theorem need_le {s : WS} {taken sent : List Msg} (h : OInv s taken sent) : need s ≤ 2 * taken.length := by
  have h1 := needL_le s.flights
  have h2 := h.fl
  have h3 := congrArg List.length h.eq
  rw [List.length_append] at h3
  unfold need
  omega
theorem fillF_online : ∀ (n : Nat) (s : WS), s.waits.length = n → (fillF s).2.online = s.online
  | n, s, hn => by
    by_cases hg : s.online = true ∧ (s.flights.length : Int) < s.window ∧ s.waits ≠ []
    · obtain ⟨ho, hl, hw⟩ := hg
      obtain ⟨m, r, hwr⟩ := List.exists_cons_of_ne_nil hw
      rw [fillF_step s m r hwr ⟨ho, hl⟩]
      have hlen : r.length < n := by rw [← hn, hwr]; simp
      exact fillF_online r.length (launchS { s with waits := r } m) rfl
    · rw [fillF_end s hg]
  termination_by n => n
theorem upF_online (s : WS) : (upF s).2.online = true := fillF_online _ { s with online := true } rfl
theorem placeL_head (f : Flt) (r : List Flt) : placeL (f :: r) f.id = 0 := by unfold placeL; rw [placeFrom, if_pos rfl]; rfl
/-- what comes back for the first under way, and what it does -/
theorem ack_head_done {s : WS} {f : Flt} {r : List Flt} (hf : s.flights = f :: r) (ho : s.online = true) {kind : Int} (hd : ackDone kind f) : need (ackF s kind f.id).2 + 1 ≤ need s ∧ (ackF s kind f.id).2.online = true := by
  have hp : placeL s.flights f.id = 0 := by rw [hf]; exact placeL_head f r
  have hfa : fltAt s f.id = f := by unfold fltAt; rw [hp, hf]; rfl
  unfold ackF
  rw [if_neg (by rw [hp, ho]; simp), hfa, if_pos hd, hp]
  have h1 := fillF_need _ { s with flights := s.flights.eraseIdx 0 } rfl
  have h2 : ∀ (n : Nat) (s : WS), s.waits.length = n → (fillF s).2.online = s.online := fun n => by
    induction n with
    | zero => intro s hs; rw [fillF_end s (fun h => h.2.2 (List.length_eq_zero_iff.1 hs))]
    | succ n ih =>
      intro s hs
      by_cases hg : s.online = true ∧ (s.flights.length : Int) < s.window ∧ s.waits ≠ []
      · obtain ⟨ho, hl, hw⟩ := hg
        obtain ⟨m, r, hwr⟩ := List.exists_cons_of_ne_nil hw
        rw [fillF_step s m r hwr ⟨ho, hl⟩]
        exact ih (launchS { s with waits := r } m) (by have h3 : r.length = n := by (rw [hwr] at hs; simpa using hs)
                                                       exact h3)
      · rw [fillF_end s hg]
  refine ⟨?_, by rw [show (0 : Int).toNat = 0 from rfl, h2 _ _ rfl]; exact ho⟩
  have h3 := (needF_le f).1
  have h4 : need { s with flights := s.flights.eraseIdx 0 } + needF f = need s := by
    simp only [need, hf, List.eraseIdx_cons_zero, needL, List.map_cons, List.sum_cons]; omega
  show need (fillF { s with flights := s.flights.eraseIdx 0 }).2 + 1 ≤ need s
  omega
theorem ack_head_rec {s : WS} {f : Flt} {r : List Flt} (hf : s.flights = f :: r) (ho : s.online = true) (hr : f.released = false) (hq : f.msg.qos = 2) :
    need (ackF s 5 f.id).2 + 1 ≤ need s ∧ (ackF s 5 f.id).2.online = true ∧ (ackF s 5 f.id).1 = [pktOf ⟨f.id, noMsg, true⟩ false] := by
  have hp : placeL s.flights f.id = 0 := by rw [hf]; exact placeL_head f r
  have hfa : fltAt s f.id = f := by unfold fltAt; rw [hp, hf]; rfl
  unfold ackF
  rw [if_neg (by rw [hp, ho]; simp), hfa, if_neg (by unfold ackDone; rw [hr]; simp), if_pos (show ackRec 5 f from ⟨rfl, .inr hq⟩), hp]
  refine ⟨?_, ho, rfl⟩
  have h1 : needF f = 2 := by unfold needF; rw [hr, hq]; rfl
  have h2 : needF ⟨f.id, noMsg, true⟩ = 1 := rfl
  simp only [need, hf, Int.toNat_zero, List.set_cons_zero, needL, List.map_cons, List.sum_cons] at *
  omega
/-- at last -/
theorem all_sent {s : WS} {taken sent : List Msg} (hi : WInv s) (h : OInv s taken sent) (ho : s.online = true) (hf : s.flights = []) : s.waits = [] ∧ sent = taken := by
  have hw : s.waits = [] := by
    refine Classical.byContradiction (fun hw => ?_)
    have h1 := hi.full ho hw
    have h2 := hi.ok.w1
    rw [hf] at h1
    simp at h1
    omega
  exact ⟨hw, by rw [h.eq, hw, List.append_nil]⟩
end Go.Proofs.Ytjccmlmkcjmicaa.Win

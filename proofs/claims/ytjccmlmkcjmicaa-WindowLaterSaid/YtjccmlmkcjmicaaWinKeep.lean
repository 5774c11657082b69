/- Plain law: what a call of a script keeps of a window: its invariant, short payloads. No walk. -/
import Derived.Test.YtjccmlmkcjmicaaWinPlay
namespace Go.Proofs.Ytjccmlmkcjmicaa.Win
open Go Go.RowKit Go.Maps Go.MapKept Go.ChangeMaps Go.Proofs.YtjccmlmkcjmicaaW.PrintWords Go.Proofs.Ytjccmlmkcjmicaa.Kinds
set_option linter.unusedVariables false

theorem fillF_pl : ∀ (n : Nat) (s : WS), s.waits.length = n → WPl s → WPl (fillF s).2
  | n, s, hn, h => by
    by_cases hg : s.online = true ∧ (s.flights.length : Int) < s.window ∧ s.waits ≠ []
    · obtain ⟨ho, hl, hw⟩ := hg
      obtain ⟨m, r, hwr⟩ := List.exists_cons_of_ne_nil hw
      rw [fillF_step s m r hwr ⟨ho, hl⟩]
      have hlen : r.length < n := by rw [← hn, hwr]; simp
      have h' : WPl { s with waits := r } := ⟨fun m' hm => h.waits m' (by rw [hwr]; exact List.mem_cons_of_mem _ hm), h.flights⟩
      exact fillF_pl r.length (launchS { s with waits := r } m) rfl (launchS_pl h' m (h.waits m (by rw [hwr]; exact List.mem_cons_self)))
    · rw [fillF_end s hg]; exact h
  termination_by n => n
theorem sendF_pl {s : WS} (h : WPl s) (m : Msg) (hm : Short m) : WPl (sendF s m).s := by
  unfold sendF
  split
  · exact h
  · split
    · exact launchS_pl h m hm
    · split
      · refine ⟨fun m' hm' => ?_, h.flights⟩
        rcases List.mem_append.1 (show m' ∈ s.waits ++ [m] from hm') with h1 | h1
        · exact h.waits m' h1
        · rw [List.mem_singleton] at h1; subst h1; exact hm
      · exact h
theorem noMsg_short : Short noMsg := by unfold Short noMsg; simp
theorem set_pl {s : WS} (h : WPl s) (i : Nat) (f : Flt) (hf : Short f.msg) : WPl { s with flights := s.flights.set i f } :=
  ⟨h.waits, fun g hg => (List.mem_or_eq_of_mem_set hg).elim (h.flights g) (fun e => e ▸ hf)⟩
theorem ackF_pl {s : WS} (h : WPl s) (kind id : Int) : WPl (ackF s kind id).2 := by
  unfold ackF
  split
  · exact h
  · split
    · exact fillF_pl _ _ rfl (eraseIdx_pl h _)
    · split
      · exact set_pl h _ _ noMsg_short
      · exact h
theorem upF_pl {s : WS} (h : WPl s) : WPl (upF s).2 := fillF_pl _ _ rfl ⟨h.waits, h.flights⟩
theorem resS_pl {s : WS} (h : WPl s) : WPl (resS s) := by
  unfold resS
  split
  · exact ⟨h.waits, h.flights⟩
  · exact h
theorem newS_pl (n q : Int) : WPl (newS n q) := ⟨fun m hm => by simp [newS] at hm, fun f hf => by simp [newS] at hf⟩
theorem playF_pl {s : WS} (h : WPl s) (o : OpV) (hm : Short o.m) : WPl (playF s o).2 := by
  unfold playF
  repeat' split
  · exact sendF_pl h _ hm
  · exact ackF_pl h _ _
  · exact upF_pl h
  · exact ⟨h.waits, h.flights⟩
  · exact resS_pl h
  · exact ⟨h.waits, h.flights⟩
  · exact h
  · exact ackF_pl h _ _
  · exact h
theorem playF_inv {s : WS} (h : WInv s) (o : OpV) : WInv (playF s o).2 ∧ Same s (playF s o).2 := by
  unfold playF
  repeat' split
  · have := sendF_inv h o.m; exact ⟨this.1, this.2.1⟩
  · have := ackF_inv h o.a o.n; exact ⟨this.1, this.2.1⟩
  · have := upF_inv h; exact ⟨this.1, this.2.1⟩
  · exact ⟨down_inv h, ⟨rfl, rfl⟩⟩
  · exact resS_inv h
  · exact ⟨free_inv h _, ⟨rfl, rfl⟩⟩
  · exact ⟨h, ⟨rfl, rfl⟩⟩
  · have := ackF_inv h o.a (s.flights.getD (pickI o.n s.flights.length) noFlt).id; exact ⟨this.1, this.2.1⟩
  · exact ⟨h, ⟨rfl, rfl⟩⟩
/-- what is reserved stays, but by Reserve and Free -/
theorem playF_D {s : WS} (h : WInv s) (o : OpV) (h5 : o.kind ≠ 5) (h6 : o.kind ≠ 6) : (playF s o).2.D = s.D := by
  unfold playF
  rw [if_neg h5, if_neg h6]
  repeat' split
  · exact (sendF_inv h o.m).2.2
  · exact (ackF_inv h o.a o.n).2.2
  · exact (upF_inv h).2.2
  · rfl
  · rfl
  · exact (ackF_inv h o.a (s.flights.getD (pickI o.n s.flights.length) noFlt).id).2.2
  · rfl
end Go.Proofs.Ytjccmlmkcjmicaa.Win

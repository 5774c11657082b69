/- A script's calls laid open: out of the arguments, and one by one. No statement of the program. -/
import Derived.Test.YtjccmlmkcjmicaaWinKnown
import Derived.Test.YtjccmlmkcjmicaaOpens
namespace Go.Proofs.Ytjccmlmkcjmicaa.Win
open Go Go.RowKit Go.Maps Go.MapKept Go.ChangeMaps Go.Proofs.YtjccmlmkcjmicaaW.PrintWords Go.Proofs.Ytjccmlmkcjmicaa.Kinds Go.Proofs.Ytjccmlmkcjmicaa.PWindowHolds Go.Proofs.Ytjccmlmkcjmicaa.Opens
set_option linter.unusedVariables false

theorem _root_.Go.Proofs.Ytjccmlmkcjmicaa.Opens.Opens.imp {P : Program} {α : Type} {d : Kd α} {G G' : α → Prop} {t : TypeId} (h : Opens P d G t) (hg : ∀ x, G x → G' x) : Opens P d G' t := by
  refine ⟨?_⟩
  intro H enc w base spare held fuel cs x hx
  obtain ⟨y, h1, h2⟩ := h.out _ enc w base spare held fuel cs x hx
  exact ⟨y, h1, hg y h2⟩
/-- an argument's call is good -/
def OpGood (x : S78) : Prop := OpFits x ∧ (Lit.int .i64 x.f0).wf = true ∧ (Lit.int .i64 x.f3).wf = true ∧ (Lit.int .i64 x.f4).wf = true
theorem opens_msg : Opens Try.prog k64 (fun x => x.f0.size ≤ maxLen ∧ x.f1.length ≤ maxLen) 64 :=
  (opens_struct (fun x : S64 => (x.f0, x.f1, x.f2, x.f3)) (fun y => ⟨y.1, y.2.1, y.2.2.1, y.2.2.2⟩) (fun _ => rfl) Try.underlying64 (by kernel_rfl)
    (opensF_cons rfl (by kernel_rfl) (opens_string Try.underlying9) (opensF_cons rfl (by kernel_rfl) (opens_slice Try.underlying23 (by kernel_rfl) (opens_int Try.underlying5))
      (opensF_cons rfl (by kernel_rfl) (opens_int Try.underlying3) (opensF_one rfl (by kernel_rfl) (opens_bool Try.underlying4)))))).imp (fun x h => ⟨h.1, h.2.1.1⟩)
theorem opens_op : Opens Try.prog k78 OpGood 78 :=
  (opens_struct (fun x : S78 => (x.f0, x.f1, x.f2, x.f3, x.f4)) (fun y => ⟨y.1, y.2.1, y.2.2.1, y.2.2.2.1, y.2.2.2.2⟩) (fun _ => rfl) Try.underlying78 (by kernel_rfl)
    (opensF_cons rfl (by kernel_rfl) (opens_int Try.underlying3) (opensF_cons rfl (by kernel_rfl) (opens_bool Try.underlying4) (opensF_cons rfl (by kernel_rfl) opens_msg
      (opensF_cons rfl (by kernel_rfl) (opens_int Try.underlying3) (opensF_one rfl (by kernel_rfl) (opens_int Try.underlying3))))))).imp (fun x h => ⟨by unfold OpFits; have := h.2.2.1; unfold maxLen at this; exact this, h.1, h.2.2.2.1, h.2.2.2.2⟩)
theorem opens_script : Opens Try.prog (Kd.slice 78 k78) (fun l => l.length ≤ maxLen ∧ ∀ x ∈ l, OpGood x) 69 := opens_slice Try.underlying69 (by kernel_rfl) opens_op

/-- one call of a script that is read -/
structure OpAt (w : World) (ad : Addr) (o : OpV) (Ap : Option Addr) (cp : Nat) : Prop where
  kind : w.cell? ad = some (.int .i64 o.kind)
  second : w.cell? ⟨ad.block, ad.off + 1, none⟩ = some (.bool o.second)
  topic : w.cell? ⟨ad.block, ad.off + 2, none⟩ = some (.string o.m.topic)
  payload : w.cell? ⟨ad.block, ad.off + 3, none⟩ = some (.slice Ap o.m.payload.length cp)
  qos : w.cell? ⟨ad.block, ad.off + 4, none⟩ = some (.int .i64 o.m.qos)
  retain : w.cell? ⟨ad.block, ad.off + 5, none⟩ = some (.bool o.m.retain)
  a : w.cell? ⟨ad.block, ad.off + 6, none⟩ = some (.int .i64 o.a)
  n : w.cell? ⟨ad.block, ad.off + 7, none⟩ = some (.int .i64 o.n)
  cap : o.m.payload.length ≤ cp
  read : (Kd.int .u8).C w Ap o.m.payload.length o.m.payload
theorem op_at {w : World} {A : Option Addr} {n : Nat} {l : List S78} (h : Kd.C k78 w A n l) (k : Nat) (hk : k < n) : ∃ ad Ap cp, A = some ad ∧ OpAt w (ad.add (k * 8)) (opOf (l.getD k z78)) Ap cp := by
  obtain ⟨ad, c, e, _, hK, hc0⟩ := Kd.C_get h z78 (k : Int) (by omega) (by omega)
  simp only [Int.toNat_natCast] at hK hc0
  have hc : ∀ j u, c[j]? = some u → w.cell? (ad.add (k * 8 + j)) = some u := hc0
  obtain ⟨Ap, cp, rfl, l3, g3⟩ := k78_open hK
  have e := fun j (h : 0 < j) => add_field ad (k * 8) j h
  exact ⟨ad, Ap, cp, ‹_›, hc 0 _ rfl, by rw [← e 1 (by omega)]; exact hc 1 _ rfl, by rw [← e 2 (by omega)]; exact hc 2 _ rfl, by rw [← e 3 (by omega)]; exact hc 3 _ rfl, by rw [← e 4 (by omega)]; exact hc 4 _ rfl, by rw [← e 5 (by omega)]; exact hc 5 _ rfl, by rw [← e 6 (by omega)]; exact hc 6 _ rfl, by rw [← e 7 (by omega)]; exact hc 7 _ rfl, l3, g3⟩
end Go.Proofs.Ytjccmlmkcjmicaa.Win

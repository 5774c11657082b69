/- codec.Decode in plain Lean: what it answers, and that what is told is told whatever follows. No statement of the program. codec.Decode: the walk. No statement of the program. a frame in plain Lean: no cut shows. No statement of the program. -/
import Derived.Test.YthlbcgaegaoanaaDoorMHead
import Derived.Test.YthlbcgaegaoanaaDoorMConn
import Derived.Test.YthlbcgaegaoanaaDoorMChk
import Derived.Test.YthlbcgaegaoanaaDoorMErr
import Derived.Test.YthlbcgaegaoanaaDoorMFields
namespace Go.Proofs.YthlbcgaegaoanaaDoor.Cr
open Go Go.RowKit Go.Proofs.YthlbcgaegaoanaaDoorW.PrintWords Go.Proofs.YthlbcgaegaoanaaDoorW.PrintLast Go.Proofs.YthlbcgaegaoanaaDoorW.PrintMore Go.Proofs.YthlbcgaegaoanaaDoor.Kinds Go.Proofs.YthlbcgaegaoanaaDoor.Utf Go.Proofs.YthlbcgaegaoanaaDoor.Chk Go.Proofs.YthlbcgaegaoanaaDoor.Rdr
set_option linter.unusedVariables false
set_option linter.unusedSimpArgs false
def topP (most : Int) : Int := min (max most 2) 268435455
structure DR where
  p : Pkt
  n : Int
  f : Option (Int × Int)
def decF (l : List Int) (h : Int × Int × Option (Int × Int)) : DR :=
  if h.2.2.isSome then ⟨noPkt, 0, h.2.2⟩
  else if h.1 = 0 ∨ (l.length : Int) - h.1 < h.2.1 then ⟨noPkt, 0, none⟩
  else
    let r := fFields ((l.drop h.1.toNat).take h.2.1.toNat) (rd l 0 / 16) (rd l 0 % 16)
    match (r.bad.or r.f) with
    | some q => ⟨noPkt, 0, some (wrap64 (q.1 + h.1), q.2)⟩
    | none => if pchk r.p = 0 then ⟨r.p, h.1 + h.2.1, none⟩ else ⟨noPkt, 0, some (0, pchk r.p)⟩
def decP (l : List Int) (most : Int) : DR := decF l (headP l (topP most))
def DR.need (r : DR) : Prop := r.n = 0 ∧ r.f = none
theorem rd_app (l m : List Int) (i : Int) (h : i.toNat < l.length) : rd (l ++ m) i = rd l i := by
  unfold rd
  simp only [List.getD_eq_getElem?_getD]
  rw [List.getElem?_append_left h]
theorem headG_app (l m : List Int) (most : Int) : ∀ k i n, i ≤ l.length → headG l most k i n ≠ (0, 0, none) → headG (l ++ m) most k i n = headG l most k i n := by
  intro k
  induction k with
  | zero => intro i n hi h; exact absurd rfl h
  | succ k ih =>
    intro i n hi h
    simp only [headG] at h ⊢
    by_cases h0 : l.length = i
    · rw [if_pos h0] at h; exact absurd rfl h
    · rw [if_neg h0] at h ⊢
      have hlt : i < l.length := by omega
      rw [if_neg (by simp; omega), rd_app l m i (by simpa using hlt)]
      by_cases h1 : 128 ≤ rd l i ∧ i = 4
      · rw [if_pos h1, if_pos h1]
      · rw [if_neg h1] at h ⊢
        rw [if_neg h1]
        by_cases h2 : 128 ≤ rd l i
        · rw [if_pos h2] at h ⊢
          rw [if_pos h2]
          exact ih _ _ (by omega) h
        · rw [if_neg h2, if_neg h2]
theorem headP_app (l m : List Int) (most : Int) (h : headP l most ≠ (0, 0, none)) : headP (l ++ m) most = headP l most := by
  unfold headP at h ⊢
  by_cases h0 : l.length = 0
  · rw [if_pos h0] at h; exact absurd rfl h
  · rw [if_neg h0] at h ⊢
    rw [if_neg (by rw [List.length_append]; omega), rd_app l m 0 (by simp; omega)]
    by_cases h1 : rd l 0 / 16 < 1 ∨ rd l 0 / 16 > 14
    · rw [if_pos h1, if_pos h1]
    · rw [if_neg h1] at h ⊢
      rw [if_neg h1]
      by_cases h2 : mayB (rd l 0 / 16) (rd l 0 % 16) = true
      · rw [if_pos h2] at h ⊢
        rw [if_pos h2]
        exact headG_app l m most _ _ _ (by omega) h
      · rw [if_neg h2, if_neg h2]
theorem headG_ok (l : List Int) (most : Int) (hw : ∀ i, 0 ≤ rd l i ∧ rd l i ≤ 255) : ∀ k i n, 1 ≤ i → i ≤ l.length → 0 ≤ n → (headG l most k i n).1 ≠ 0 ∨ (headG l most k i n).2.2 ≠ none →
    ((headG l most k i n).2.2 = none → (i : Int) + 1 ≤ (headG l most k i n).1 ∧ (headG l most k i n).1 ≤ i + k ∧ (headG l most k i n).1 ≤ l.length ∧ 0 ≤ (headG l most k i n).2.1 ∧ (headG l most k i n).2.1 ≤ most) ∧
    ((headG l most k i n).2.2 ≠ none → (headG l most k i n).1 = 0) := by
  intro k
  induction k with
  | zero => intro i n h1 hi hn h; simp [headG] at h
  | succ k ih =>
    intro i n h1 hi hn h
    simp only [headG] at h ⊢
    have hp : (0 : Int) < 128 ^ (i - 1) := Int.pow_pos (by omega)
    have hr := hw i
    have hm : 0 ≤ rd l i % 128 * 128 ^ (i - 1) := Int.mul_nonneg (by omega) (Int.le_of_lt hp)
    by_cases h0 : l.length = i
    · rw [if_pos h0] at h; simp at h
    · rw [if_neg h0] at h ⊢
      by_cases h2 : 128 ≤ rd l i ∧ i = 4
      · rw [if_pos h2]; simp
      · rw [if_neg h2] at h ⊢
        by_cases h3 : 128 ≤ rd l i
        · rw [if_pos h3] at h ⊢
          have := ih (i + 1) _ (by omega) (by omega) (by omega) h
          refine ⟨fun e => ?_, this.2⟩
          have := this.1 e
          push_cast at this
          omega
        · rw [if_neg h3] at h ⊢
          by_cases h4 : n + rd l i % 128 * 128 ^ (i - 1) > most
          · rw [if_pos h4]; simp
          · rw [if_neg h4]
            refine ⟨fun _ => ?_, fun e => absurd rfl e⟩
            simp only []
            omega
theorem headG_form (l : List Int) (most : Int) : ∀ k i n, headG l most k i n = (0, 0, none) ∨ (headG l most k i n).1 ≠ 0 ∨ (headG l most k i n).2.2 ≠ none := by
  intro k
  induction k with
  | zero => intro i n; exact .inl rfl
  | succ k ih =>
    intro i n
    simp only [headG]
    by_cases h0 : l.length = i
    · rw [if_pos h0]; simp
    · rw [if_neg h0]
      by_cases h2 : 128 ≤ rd l i ∧ i = 4
      · rw [if_pos h2]; simp
      · rw [if_neg h2]
        by_cases h3 : 128 ≤ rd l i
        · rw [if_pos h3]; exact ih _ _
        · rw [if_neg h3]
          by_cases h4 : n + rd l i % 128 * 128 ^ (i - 1) > most
          · rw [if_pos h4]; simp
          · rw [if_neg h4]; right; left; simp only []; omega
theorem headP_form (l : List Int) (most : Int) : headP l most = (0, 0, none) ∨ (headP l most).1 ≠ 0 ∨ (headP l most).2.2 ≠ none := by
  unfold headP
  by_cases h0 : l.length = 0
  · rw [if_pos h0]; simp
  · rw [if_neg h0]
    by_cases h1 : rd l 0 / 16 < 1 ∨ rd l 0 / 16 > 14
    · rw [if_pos h1]; simp
    · rw [if_neg h1]
      by_cases h2 : mayB (rd l 0 / 16) (rd l 0 % 16) = true
      · rw [if_pos h2]; exact headG_form l most 4 1 0
      · rw [if_neg h2]; simp
theorem headP_ok (l : List Int) (most : Int) (hw : ∀ i, 0 ≤ rd l i ∧ rd l i ≤ 255) (h : (headP l most).1 ≠ 0) : (headP l most).2.2 = none ∧ 2 ≤ (headP l most).1 ∧ (headP l most).1 ≤ 5 ∧ (headP l most).1 ≤ l.length ∧ 0 ≤ (headP l most).2.1 ∧ (headP l most).2.1 ≤ most ∧ 1 ≤ rd l 0 / 16 ∧ rd l 0 / 16 ≤ 14 := by
  unfold headP at h ⊢
  by_cases h0 : l.length = 0
  · rw [if_pos h0] at h; exact absurd rfl h
  · rw [if_neg h0] at h ⊢
    by_cases h1 : rd l 0 / 16 < 1 ∨ rd l 0 / 16 > 14
    · rw [if_pos h1] at h; exact absurd rfl h
    · rw [if_neg h1] at h ⊢
      by_cases h2 : mayB (rd l 0 / 16) (rd l 0 % 16) = true
      · rw [if_pos h2] at h ⊢
        have := headG_ok l most hw 4 1 0 (by omega) (by omega) (by omega) (.inl h)
        have e : (headG l most 4 1 0).2.2 = none := by
          by_cases e : (headG l most 4 1 0).2.2 = none
          · exact e
          · exact absurd (this.2 e) h
        have := this.1 e
        push_cast at this
        refine ⟨e, ?_⟩
        omega
      · rw [if_neg h2] at h; exact absurd rfl h
theorem headG_few (l : List Int) (most : Int) : ∀ k i n, k + i = 5 → 1 ≤ k → i ≤ l.length → headG l most k i n = (0, 0, none) → l.length ≤ 4 := by
  intro k
  induction k with
  | zero => intro i n h1 h2 hi h; omega
  | succ k ih =>
    intro i n h1 h2 hi h
    simp only [headG] at h
    by_cases h0 : l.length = i
    · omega
    · rw [if_neg h0] at h
      by_cases h2 : 128 ≤ rd l i ∧ i = 4
      · rw [if_pos h2] at h; simp at h
      · rw [if_neg h2] at h
        by_cases h3 : 128 ≤ rd l i
        · rw [if_pos h3] at h
          exact ih _ _ (by omega) (by omega) (by omega) h
        · rw [if_neg h3] at h
          by_cases h4 : n + rd l i % 128 * 128 ^ (i - 1) > most
          · rw [if_pos h4] at h; simp at h
          · rw [if_neg h4] at h
            simp only [Prod.mk.injEq] at h
            omega
theorem headP_few (l : List Int) (most : Int) (h : headP l most = (0, 0, none)) : l.length ≤ 4 := by
  unfold headP at h
  by_cases h0 : l.length = 0
  · omega
  · rw [if_neg h0] at h
    by_cases h1 : rd l 0 / 16 < 1 ∨ rd l 0 / 16 > 14
    · rw [if_pos h1] at h; simp at h
    · rw [if_neg h1] at h
      by_cases h2 : mayB (rd l 0 / 16) (rd l 0 % 16) = true
      · rw [if_pos h2] at h; exact headG_few l most 4 1 0 rfl (by omega) (by omega) h
      · rw [if_neg h2] at h; simp at h
theorem decF_app (l m : List Int) (h : Int × Int × Option (Int × Int)) (h0 : 0 ≤ h.1) (h1 : 0 ≤ h.2.1) (hl : l ≠ []) (hn : ¬ (decF l h).need) : decF (l ++ m) h = decF l h := by
  unfold decF at hn ⊢
  by_cases a : h.2.2.isSome = true
  · rw [if_pos a, if_pos a]
  · rw [if_neg a] at hn ⊢
    rw [if_neg a]
    by_cases b : h.1 = 0 ∨ (l.length : Int) - h.1 < h.2.1
    · rw [if_pos b] at hn; exact absurd ⟨rfl, rfl⟩ hn
    · rw [if_neg b] at hn ⊢
      rw [if_neg (by simp only [List.length_append]; omega)]
      have e0 : rd (l ++ m) 0 = rd l 0 := rd_app l m 0 (by have := List.length_pos_iff.2 hl; omega)
      have e1 : ((l ++ m).drop h.1.toNat).take h.2.1.toNat = (l.drop h.1.toNat).take h.2.1.toNat := by
        rw [List.drop_append_of_le_length (by omega), List.take_append_of_le_length (by rw [List.length_drop]; omega)]
      rw [e0, e1]
theorem headP_nil (most : Int) : headP [] most = (0, 0, none) := rfl
theorem decP_nil (most : Int) : decP [] most = ⟨noPkt, 0, none⟩ := by simp [decP, headP_nil, decF]
theorem decP_app (l m : List Int) (most : Int) (hw : ∀ i, 0 ≤ rd l i ∧ rd l i ≤ 255) (hn : ¬ (decP l most).need) : decP (l ++ m) most = decP l most := by
  have hl : l ≠ [] := by rintro rfl; exact hn (by rw [decP_nil]; exact ⟨rfl, rfl⟩)
  unfold decP at hn ⊢
  rcases headP_form l (topP most) with h | h
  · rw [h] at hn; exact absurd (by simp [decF, DR.need]) hn
  · have hne : headP l (topP most) ≠ (0, 0, none) := by intro e; rw [e] at h; simp at h
    rw [headP_app l m _ hne]
    by_cases h1 : (headP l (topP most)).1 = 0
    · have h2 : (headP l (topP most)).2.2 ≠ none := h.resolve_left (fun e => e h1)
      unfold decF
      have : (headP l (topP most)).2.2.isSome = true := by rw [Option.isSome_iff_ne_none]; exact h2
      rw [if_pos this, if_pos this]
    · have := headP_ok l (topP most) hw h1
      exact decF_app l m _ (by omega) (by omega) hl hn
theorem decP_need (l : List Int) (most : Int) (hw : ∀ i, 0 ≤ rd l i ∧ rd l i ≤ 255) (hn : (decP l most).need) : (l.length : Int) < topP most + 5 := by
  have ht : 2 ≤ topP most := by unfold topP; omega
  unfold decP at hn
  rcases headP_form l (topP most) with h | h
  · have := headP_few l _ h; omega
  · by_cases h1 : (headP l (topP most)).1 = 0
    · have h2 : (headP l (topP most)).2.2 ≠ none := h.resolve_left (fun e => e h1)
      unfold decF at hn
      have : (headP l (topP most)).2.2.isSome = true := by rw [Option.isSome_iff_ne_none]; exact h2
      rw [if_pos this] at hn
      exact absurd hn.2 h2
    · have hok := headP_ok l (topP most) hw h1
      unfold decF at hn
      rw [if_neg (by rw [hok.1]; simp)] at hn
      by_cases b : (headP l (topP most)).1 = 0 ∨ (l.length : Int) - (headP l (topP most)).1 < (headP l (topP most)).2.1
      · omega
      · rw [if_neg b] at hn
        obtain ⟨hn1, hn2⟩ := hn
        revert hn1 hn2
        generalize fFields ((l.drop (headP l (topP most)).1.toNat).take (headP l (topP most)).2.1.toNat) (rd l 0 / 16) (rd l 0 % 16) = r
        intro hn1 hn2
        cases e : r.bad.or r.f with
        | some q => simp [e] at hn2
        | none =>
          simp only [e] at hn1 hn2
          by_cases c : pchk r.p = 0
          · rw [if_pos c] at hn1; simp only [] at hn1; omega
          · rw [if_neg c] at hn2; simp at hn2
theorem decP_took (l : List Int) (most : Int) (hw : ∀ i, 0 ≤ rd l i ∧ rd l i ≤ 255) (hn : (decP l most).n ≠ 0) : (decP l most).f = none ∧ 2 ≤ (decP l most).n ∧ (decP l most).n ≤ l.length ∧ pchk (decP l most).p = 0 := by
  unfold decP at hn ⊢
  unfold decF at hn ⊢
  by_cases a : (headP l (topP most)).2.2.isSome = true
  · rw [if_pos a] at hn; exact absurd rfl hn
  · rw [if_neg a] at hn ⊢
    by_cases b : (headP l (topP most)).1 = 0 ∨ (l.length : Int) - (headP l (topP most)).1 < (headP l (topP most)).2.1
    · rw [if_pos b] at hn; exact absurd rfl hn
    · rw [if_neg b] at hn ⊢
      have hok := headP_ok l (topP most) hw (fun e => b (.inl e))
      revert hn
      generalize fFields ((l.drop (headP l (topP most)).1.toNat).take (headP l (topP most)).2.1.toNat) (rd l 0 / 16) (rd l 0 % 16) = r
      intro hn
      cases e : r.bad.or r.f with
      | some q => simp [e] at hn
      | none =>
        simp only [e] at hn ⊢
        by_cases c : pchk r.p = 0
        · rw [if_pos c]; refine ⟨rfl, ?_, ?_, c⟩ <;> simp only [] <;> omega
        · rw [if_neg c] at hn; exact absurd rfl hn
theorem decP_pkt (l : List Int) (most : Int) (hn : (decP l most).n = 0) (hw : ∀ i, 0 ≤ rd l i ∧ rd l i ≤ 255) : (decP l most).p = noPkt := by
  unfold decP at hn ⊢
  unfold decF at hn ⊢
  by_cases a : (headP l (topP most)).2.2.isSome = true
  · rw [if_pos a]
  · rw [if_neg a] at hn ⊢
    by_cases b : (headP l (topP most)).1 = 0 ∨ (l.length : Int) - (headP l (topP most)).1 < (headP l (topP most)).2.1
    · rw [if_pos b]
    · rw [if_neg b] at hn ⊢
      have hok := headP_ok l (topP most) hw (fun e => b (.inl e))
      revert hn
      generalize fFields ((l.drop (headP l (topP most)).1.toNat).take (headP l (topP most)).2.1.toNat) (rd l 0 / 16) (rd l 0 % 16) = r
      intro hn
      cases e : r.bad.or r.f with
      | some q => simp [e]
      | none =>
        simp only [e] at hn ⊢
        by_cases c : pchk r.p = 0
        · rw [if_pos c] at hn; simp only [] at hn; omega
        · rw [if_neg c]
end Go.Proofs.YthlbcgaegaoanaaDoor.Cr

namespace Go.Proofs.YthlbcgaegaoanaaDoor.Cr
open Go Go.RowKit Go.Proofs.YthlbcgaegaoanaaDoorW.PrintWords Go.Proofs.YthlbcgaegaoanaaDoorW.PrintLast Go.Proofs.YthlbcgaegaoanaaDoorW.PrintMore Go.Proofs.YthlbcgaegaoanaaDoor.Kinds Go.Proofs.YthlbcgaegaoanaaDoor.Utf Go.Proofs.YthlbcgaegaoanaaDoor.Chk Go.Proofs.YthlbcgaegaoanaaDoor.Rdr
set_option linter.unusedVariables false
set_option linter.unusedSimpArgs false
def EV (w : World) (base : Nat) (ev : Value) : Option (Int × Int) → Prop
  | none => ev = .nilIface
  | some pc => ∃ F, ev = .iface 50 (.pointer (some ⟨F, 0, none⟩)) ∧ FltAt w F pc.1 pc.2 ∧ base ≤ F
theorem EV.fr {w w1 : World} {base : Nat} {ev : Value} {f : Option (Int × Int)} {ok : Nat → Prop} (h : EV w base ev f) (hf : Fr ok w w1) (hok : ∀ k, k < w.heap.size → ok k → ∃ cells t, w.heap[k]? = some (.cells cells t (0, 0)) ∧ t ≠ 61) : EV w1 base ev f := by
  cases f with
  | none => exact h
  | some pc =>
    obtain ⟨F, rfl, hF, hb⟩ := h
    refine ⟨F, rfl, (hf.block F (blk_lt hF) fun e => ?_).trans hF, hb⟩
    obtain ⟨cells, t, hc, ht⟩ := hok F (blk_lt hF) e
    rw [show w.heap[F]? = _ from hF] at hc
    injection hc with hc
    injection hc with _ hc
    exact ht hc.symm
theorem EV.lower {w : World} {base base' : Nat} {ev : Value} {f : Option (Int × Int)} (h : EV w base ev f) (hb : base' ≤ base) : EV w base' ev f := by
  cases f with
  | none => exact h
  | some pc => obtain ⟨F, e, hF, h1⟩ := h; exact ⟨F, e, hF, Nat.le_trans hb h1⟩
def DecAt (w w' : World) (e : Ending) (r : DR) : Prop :=
  ∃ (cs : List Value) (ev : Value), e = .returned (.tuple #[.agg cs.toArray, .int .i64 r.n, ev]) ∧ kPkt.M w' w.heap.size (fun _ => True) r.p cs ∧ EV w' w.heap.size ev r.f ∧ Below w.heap.size w w'
theorem results_dec {P : Program} {fn : Func} {tmps : Array Value} {w : World} {k a b : Nat} {t : TypeId} {g : Nat} {cs : Array Value} {d : TypeDesc} (hr : fn.results = #[.cell k t, .tmp a, .tmp b]) (hp : tmps.getD k undef = .pointer (some ⟨g, 0, none⟩)) (hg : w.heap[g]? = some (.cells cs t (0, 0)))
    (hu : P.underlying t = some d) (hd : (match d with | .struct _ | .array _ _ => true | _ => false) = true) (hi : (P.info? t).map (·.size) = some cs.size) : (results fn tmps).run P w = .ok (.tuple #[.agg cs, tmps.getD a undef, tmps.getD b undef]) w := by
  have h := run_loadVar_row w g t t cs (0, 0) d hg hu hd hi
  have hp' : tmps[k]?.getD undef = .pointer (some ⟨g, 0, none⟩) := by rw [← hp]; simp
  simp [results, hr, hp', asAddr, h]
theorem noM (w : World) (base : Nat) : kPkt.M w base (fun _ => True) noPkt noCells.toList := by
  have := pkt_M_mk (w := w) (base := base) (ok := fun _ => True) (p := noPkt) (Kd.R_nil (Kd.int .u8) _ w base _) (Kd.R_nil (Kd.int .u8) _ w base _) (Kd.R_nil (Kd.int .u8) _ w base _) (Kd.R_nil kAsk _ w base _) (Kd.R_nil (Kd.int .i64) _ w base _) (Kd.R_nil Kd.string _ w base _)
  exact this
theorem noOne : noCells.all (·.oneCell') = true := by simp [noCells, pktCells, Value.oneCell']
theorem exec_store_row {P : Program} {w : World} {oi : Oper} {ev : Operand → Value} {ty : TypeId} {x y : Operand} {g : Nat} {cells old : Array Value} (ho : oi.op = .store ty x y) (hx : ev x = .pointer (some ⟨g, 0, none⟩)) (hy : ev y = .agg cells)
    (hg : w.heap[g]? = some (.cells old ty (0, 0))) (hi : (P.info? ty).map (·.size) = some cells.size) (hold : old.size = cells.size) (h1 : cells.all (·.oneCell') = true) : (execOp ev oi).run P w = .ok .skip (w.setRow g cells) := by
  unfold execOp
  simp only [ho, hx, hy, Instr.storeAt, Instr.sureAddr, Sem.run_bind, Sem.run_pure, Result.andThen_ok, run_storeVar_row w g ty ty old cells hg hi hold h1]
theorem blk_lt_cell {w : World} {ad : Addr} {u : Value} (h : w.cell? ad = some u) : ad.block < w.heap.size := by
  rcases Nat.lt_or_ge ad.block w.heap.size with h1 | h1
  · exact h1
  · simp [World.cell?, Array.getElem?_eq_none h1] at h
theorem frCell4 {w w1 : World} {base Q : Nat} {ad : Addr} {u : Value} (hF : Fr (okP w base Q) w w1) (hb : ad.block < base) (h : w.cell? ad = some u) : w1.cell? ad = some u := by
  rw [← h]
  simp only [World.cell?, hF.block ad.block (blk_lt_cell h) (fun e => by have := e.1; omega)]
structure D7 (w0 : World) (base C B : Nat) (l : List Int) (n : Int) (r : FR) (P : Nat) (cs : List Value) (wx : World) : Prop where
  cr : CrIs wx base C B l r.a r.f n r.bad
  m : kPkt.M wx base (fun _ => True) r.p cs
  p : wx.heap[P]? = some (.cells noCells 43 (0, 0))
  fr : Fr (fun j => base ≤ j) w0 wx
  ge : w0.heap.size ≤ P
theorem D7.callFirst {w0 w4 : World} {base C B : Nat} {l : List Int} {n : Int} {r : FR} {cs : List Value} (hb : base ≤ w0.heap.size) (hM : kPkt.M w4 base (fun _ => True) r.p cs) (hC : CrIs w4 base C B l r.a r.f n r.bad) (hF : Fr (okP w0.drew base w0.drew.heap.size) w0.drew w4) : D7 w0 base C B l n r w4.heap.size cs (w4.alloc (.cells noCells 43)) :=
  ⟨hC.below ((Below.refl _ _).alloc (Nat.le_refl _) _), Kd.M_alloc hM _, heap_alloc_new _ _, (Fr.trans ((Fr.refl (fun j => base ≤ j) w0).drew) hF (fun _ _ e => e.1)).alloc _, hF.size⟩
theorem D7.allocFirst {w0 w4 : World} {base C B : Nat} {l : List Int} {n : Int} {r : FR} {cs : List Value} (hb : base ≤ w0.heap.size) (hM : kPkt.M w4 base (fun _ => True) r.p cs) (hC : CrIs w4 base C B l r.a r.f n r.bad) (hF : Fr (okP (w0.drew.alloc (.cells noCells 43)) base (w0.drew.alloc (.cells noCells 43)).heap.size) (w0.drew.alloc (.cells noCells 43)) w4) : D7 w0 base C B l n r w0.heap.size cs w4 := by
  have h0 : (w0.drew.alloc (.cells noCells 43)).heap[w0.heap.size]? = some (.cells noCells 43 (0, 0)) := heap_alloc_new w0.drew _
  have hs : w0.heap.size < (w0.drew.alloc (.cells noCells 43)).heap.size := blk_lt h0
  refine ⟨hC, hM, (hF.block _ hs fun e => ?_).trans h0, Fr.trans (((Fr.refl (fun j => base ≤ j) w0).drew).alloc _) hF (fun _ _ e => e.1), Nat.le_refl _⟩
  rcases e.2 with e | e
  · simp at e
  · exact e _ h0
theorem D7.size {w0 : World} {base C B : Nat} {l : List Int} {n : Int} {r : FR} {P : Nat} {cs : List Value} {wx : World} (h : D7 w0 base C B l n r P cs wx) : (Tryd.prog.info? 43).map (·.size) = some cs.toArray.size := by
  rw [show cs.toArray.size = 25 from by rw [List.size_toArray, kPkt.K_len (kPkt.K_of_M h.m)]; rfl]; exact pktSize
theorem D7.sz2 {w0 : World} {base C B : Nat} {l : List Int} {n : Int} {r : FR} {P : Nat} {cs : List Value} {wx : World} (h : D7 w0 base C B l n r P cs wx) : noCells.size = cs.toArray.size := by
  exact (show noCells.size = 25 from rfl).trans (by rw [List.size_toArray, kPkt.K_len (kPkt.K_of_M h.m)]; rfl)
theorem D7.one {w0 : World} {base C B : Nat} {l : List Int} {n : Int} {r : FR} {P : Nat} {cs : List Value} {wx : World} (h : D7 w0 base C B l n r P cs wx) : cs.toArray.all (·.oneCell') = true := by
  rw [Array.all_eq_true_iff_forall_mem]
  intro u hu
  exact kPkt.K_one (kPkt.K_of_M h.m) u (by simpa using hu)
theorem setRow_cell {w : World} {g : Nat} {cs : Array Value} {p : Addr} {u : Value} (h : p.block ≠ g) (hc : w.cell? p = some u) : (w.setRow g cs).cell? p = some u := by
  rw [← hc]
  simp only [World.cell?, setRow_far h]
theorem setRow_size (w : World) (g : Nat) (cs : Array Value) : (w.setRow g cs).heap.size = w.heap.size := by simp [World.setRow]
structure D8 (w0 : World) (base C B P q0 : Nat) (l : List Int) (n : Int) (r : FR) (wx : World) : Prop where
  cr : CrIs wx base C B l r.a r.f n r.bad
  ex : ∃ cs : List Value, wx.heap[P]? = some (.cells cs.toArray 43 (0, 0)) ∧ kPkt.M wx base (fun _ => True) r.p cs
  q0 : wx.heap[q0]? = some (.cells noCells 43 (0, 0))
  fr : Fr (fun j => base ≤ j) w0 wx
theorem D7.store {w0 : World} {base C B : Nat} {l : List Int} {n : Int} {r : FR} {P q0 : Nat} {cs : List Value} {wx : World} (h : D7 w0 base C B l n r P cs wx) (hb : base ≤ w0.heap.size) (hq : q0 < base) (h0 : w0.heap[q0]? = some (.cells noCells 43 (0, 0))) : D8 w0 base C B P q0 l n r (wx.setRow P cs.toArray) := by
  have hg := h.ge
  have hok : ∀ k, k < wx.heap.size → k = P → ∃ cells t, wx.heap[k]? = some (.cells cells t (0, 0)) ∧ t ≠ 5 ∧ t ≠ 92 ∧ t ≠ 61 ∧ t ≠ 73 := fun k hk e => ⟨_, _, e ▸ h.p, by decide, by decide, by decide, by decide⟩
  refine ⟨h.cr.fr (setRow_fr wx P _) hok, ⟨cs, setRow_block h.p, M_frT h.m (setRow_fr wx P _) (fun k hk e => ⟨_, _, e ▸ h.p, by decide⟩)⟩, ?_, h.fr.trans (setRow_fr wx P _) (fun k _ e => by omega)⟩
  rw [setRow_far (by omega)]
  exact (h.fr.block q0 (blk_lt h0) (by omega)).trans h0
structure D9 (w0 : World) (base C P q0 : Nat) (p : Pkt) (b : Option (Int × Int)) (wx : World) : Prop where
  bad : ∃ ev, wx.cell? ⟨C, 2, none⟩ = some ev ∧ FV wx base ev b
  cb : ∃ cells, wx.heap[C]? = some (.cells cells 73 (0, 0))
  ex : ∃ cs : List Value, wx.heap[P]? = some (.cells cs.toArray 43 (0, 0)) ∧ kPkt.M wx base (fun _ => True) p cs
  q0 : wx.heap[q0]? = some (.cells noCells 43 (0, 0))
  fr : Fr (fun j => base ≤ j) w0 wx
theorem D8.d9 {w0 : World} {base C B P q0 : Nat} {l : List Int} {n : Int} {r : FR} {wx : World} (h : D8 w0 base C B P q0 l n r wx) : D9 w0 base C P q0 r.p r.bad wx := by
  obtain ⟨ev, h1, h2⟩ := h.cr.ex
  exact ⟨⟨ev, blk_cell h1 2, h2⟩, ⟨_, h1⟩, h.ex, h.q0, h.fr⟩
theorem D8.below {w0 : World} {base C B P q0 : Nat} {l : List Int} {n : Int} {r : FR} {wx w1 : World} (h : D8 w0 base C B P q0 l n r wx) (hb : Below wx.heap.size wx w1) : D8 w0 base C B P q0 l n r w1 := by
  obtain ⟨cs, h1, h2⟩ := h.ex
  exact ⟨h.cr.below hb, ⟨cs, (hb.block _ (blk_lt h1)).trans h1, Kd.M_below h2 hb⟩, (hb.block _ (blk_lt h.q0)).trans h.q0, h.fr.trans (Fr.of_below (fun _ => False) hb) (fun _ _ e => e.elim)⟩
theorem D8.as {w0 : World} {base C B P q0 : Nat} {l : List Int} {n : Int} {r : FR} {q : Int × Int} {w1 : World} (h : D8 w0 base C B P q0 l n r w1) (hn : r.bad = none) {F : Nat} (hF : FltAt w1 F q.1 q.2) (hb : base ≤ F) : D9 w0 base C P q0 r.p (some q) (w1.setCell ⟨C, 2, none⟩ (.pointer (some ⟨F, 0, none⟩))) := by
  obtain ⟨cs, h1, h2⟩ := h.ex
  obtain ⟨ev, h3, h4⟩ := h.cr.ex
  have hs := (Fr.refl (fun k => k = C) w1).setCell (p := ⟨C, 2, none⟩) (fun _ => rfl) (.pointer (some ⟨F, 0, none⟩))
  have hne : ∀ {k cells t}, w1.heap[k]? = some (.cells cells t (0, 0)) → t ≠ 73 → k ≠ C := by
    intro k cells t hk ht e
    subst e
    rw [h3] at hk; injection hk with hk; injection hk with _ hk; exact ht hk.symm
  refine ⟨⟨_, blk_cell (blk_set h3 2 _) 2, ⟨F, rfl, (hs.block F (blk_lt hF) (hne hF (by decide))).trans hF, hb⟩⟩, ⟨_, blk_set h3 2 _⟩, ⟨cs, (hs.block P (blk_lt h1) (hne h1 (by decide))).trans h1, M_frT h2 hs (fun k hk e => ⟨_, _, e ▸ h3, by decide⟩)⟩, (hs.block q0 (blk_lt h.q0) (hne h.q0 (by decide))).trans h.q0, h.fr.trans hs (fun k _ e => e ▸ h.cr.ge)⟩
structure DEnd (w0 : World) (q0 : Nat) (a c : Int) (F : Nat) (wx : World) : Prop where
  flt : FltAt wx F a c
  ge : w0.heap.size ≤ F
  qz : wx.heap[q0]? = some (.cells noCells 43 (0, 0))
  fr : Fr (fun j => j = q0) w0 wx
theorem DEnd.order1 {w0 : World} {q0 : Nat} {a c : Int} (h : w0.heap[q0]? = some (.cells noCells 43 (0, 0))) : DEnd w0 q0 a c w0.heap.size ((w0.drew.alloc (.cells #[.int .i64 a, .int .i64 c] 61)).setRow q0 noCells) := by
  have hl := blk_lt h
  have h1 : (w0.drew.alloc (.cells #[.int .i64 a, .int .i64 c] 61)).heap[q0]? = some (.cells noCells 43 (0, 0)) := (heap_alloc_old w0.drew _ hl).trans h
  exact ⟨(setRow_far (by omega) _).trans (heap_alloc_new w0.drew _), Nat.le_refl _, setRow_block h1, (((Fr.refl (fun j => j = q0) w0).drew).alloc _).trans (setRow_fr _ q0 _) (fun _ _ e => e)⟩
theorem DEnd.order2 {w0 : World} {q0 : Nat} {a c : Int} (h : w0.heap[q0]? = some (.cells noCells 43 (0, 0))) : DEnd w0 q0 a c w0.heap.size ((w0.drew.setRow q0 noCells).alloc (.cells #[.int .i64 a, .int .i64 c] 61)) := by
  have hl := blk_lt h
  have h1 : (w0.drew.setRow q0 noCells).heap[q0]? = some (.cells noCells 43 (0, 0)) := setRow_block h
  have hs : (w0.drew.setRow q0 noCells).heap.size = w0.heap.size := setRow_size _ _ _
  have hn := heap_alloc_new (w0.drew.setRow q0 noCells) (.cells #[.int .i64 a, .int .i64 c] 61)
  rw [hs] at hn
  exact ⟨hn, Nat.le_refl _, (heap_alloc_old _ _ (by rw [hs]; exact hl)).trans h1, ((((Fr.refl (fun j => j = q0) w0).drew).trans (setRow_fr _ q0 _) (fun _ _ e => e))).alloc _⟩
theorem read_len {w : World} {l : List Int} {A : Option Addr} {n c : Nat} (hn : n = l.length) (hr : (Kd.int .u8).C w A l.length l) (hl : l.length ≤ 1099511627776) (hb : ∀ x ∈ l, 0 ≤ x ∧ x ≤ 255) :
    Calls Tryd.prog 19 #[.slice A n c] w fun e w' => ∃ B, e = .returned (.pointer (some ⟨B, 0, none⟩)) ∧ RdIs w' w.heap.size B l 0 none ∧ Below w.heap.size w w' := by
  subst hn
  exact read_any l A c w hr hl hb
set_option maxRecDepth 100000 in
theorem dec_fault {w : World} (hg : Gl w) (l : List Int) (most : Int) (A : Option Addr) (c : Nat) (hr : (Kd.int .u8).C w A l.length l) (hb : ∀ x ∈ l, 0 ≤ x ∧ x ≤ 255) (q : Int × Int) (hh : (headP l (topP most)).2.2 = some q) :
    Calls Tryd.prog 14 #[.slice A l.length c, .int .i64 most] w fun e w' => DecAt w w' e ⟨noPkt, 0, some q⟩ := by
  obtain ⟨X, hX⟩ : ∃ X : World, X = w.alloc (.cells noCells 43) := ⟨_, rfl⟩
  have hbx : Below w.heap.size w X := by rw [hX]; exact below_alloc (Below.refl w.heap.size w) (.cells noCells 43)
  have HG := Aside0.mk (hg.below hbx hg.sz hbx.size)
  have HR := Aside0.mk (Kd.C_below hr hbx)
  have HB := Aside0.mk hb
  have HBX := Aside0.mk hbx
  have HQ := Aside0.mk (show X.heap[w.heap.size]? = some (.cells noCells 43 (0, 0)) by rw [hX]; exact heap_alloc_new w (.cells noCells 43))
  have HX := Aside0.mk hX
  obtain ⟨hp, hhp⟩ : ∃ hp, hp = headP l (min (max most 2) 268435455) := ⟨_, rfl⟩
  have HHP := Aside0.mk (hhp.trans (show _ = headP l (topP most) from rfl))
  have HC := Aside0.mk (show Calls Tryd.prog 18 #[.slice A l.length c, .int .i64 (min (max most 2) 268435455)] X fun e w' => HeadAt X w' e hp by rw [hhp]; exact head_any HG.out l _ A c HR.out HB.out)
  have HH := Aside0.mk (show hp.2.2 = some q by rw [hhp]; exact hh)
  obtain ⟨fr, n, fo⟩ := hp
  clear hg hr hb hh hX hbx hhp
  go_enter Tryd.func14, Tryd.ntmps14
  go_upto_region 1 with fail
  refine wp_wld (w2 := X) (by rw [HX.out]; rfl) ?_
  clear HX
  go_upto_block 0 with (go_at_call 18; (with_reducible refine (HC.out).mono ?_); rintro e w1 ⟨ev, rfl, hF, hB⟩; have HF := Aside0.mk hF; have HB1 := Aside0.mk hB; have HQ1 := Aside0.mk ((hB.block w.heap.size (blk_lt HQ.out)).trans HQ.out); clear hF hB; dsimp only)
  have hf := HF.out
  rw [HH.out] at hf
  obtain ⟨F, rfl, hF1, hF2⟩ := hf
  have HF1 := Aside0.mk hF1
  clear hF1
  go_wp2_with (refine wpList_store_row rfl 43 _ _ rfl w.heap.size _ rfl rfl 43 _ HQ1.out pktSize rfl (by simp [Value.oneCell']) ?_)
  refine bodyPost_ret (results_dec Tryd.results14 rfl (setRow_block HQ1.out) Tryd.underlying43 rfl pktSize) rfl ⟨noCells.toList, _, rfl, noM _ _, ⟨F, rfl, ?_, ?_⟩, ?_⟩
  · exact (setRow_far (by have := blk_lt HQ.out; omega) _).trans HF1.out
  · have := HBX.out.size; omega
  · exact setRow_below (HBX.out.trans (HB1.out.mono HBX.out.size)) (Nat.le_refl _) _
set_option maxRecDepth 100000 in
theorem dec_need {w : World} (hg : Gl w) (l : List Int) (most : Int) (A : Option Addr) (c : Nat) (hr : (Kd.int .u8).C w A l.length l) (hb : ∀ x ∈ l, 0 ≤ x ∧ x ≤ 255) (hh : (headP l (topP most)).2.2 = none) (hn : (headP l (topP most)).1 = 0 ∨ (l.length : Int) - (headP l (topP most)).1 < (headP l (topP most)).2.1)
    (hr0 : 0 ≤ (headP l (topP most)).1 ∧ (headP l (topP most)).1 ≤ 5) (hll : l.length ≤ 1099511627776) :
    Calls Tryd.prog 14 #[.slice A l.length c, .int .i64 most] w fun e w' => DecAt w w' e ⟨noPkt, 0, none⟩ := by
  obtain ⟨X, hX⟩ : ∃ X : World, X = w.alloc (.cells noCells 43) := ⟨_, rfl⟩
  have hbx : Below w.heap.size w X := by rw [hX]; exact below_alloc (Below.refl w.heap.size w) (.cells noCells 43)
  have HG := Aside0.mk (hg.below hbx hg.sz hbx.size)
  have HR := Aside0.mk (Kd.C_below hr hbx)
  have HB := Aside0.mk hb
  have HBX := Aside0.mk hbx
  have HQ := Aside0.mk (show X.heap[w.heap.size]? = some (.cells noCells 43 (0, 0)) by rw [hX]; exact heap_alloc_new w (.cells noCells 43))
  have HX := Aside0.mk hX
  obtain ⟨hp, hhp⟩ : ∃ hp, hp = headP l (min (max most 2) 268435455) := ⟨_, rfl⟩
  have HC := Aside0.mk (show Calls Tryd.prog 18 #[.slice A l.length c, .int .i64 (min (max most 2) 268435455)] X fun e w' => HeadAt X w' e hp by rw [hhp]; exact head_any HG.out l _ A c HR.out HB.out)
  have hh2 : hp.2.2 = none := by rw [hhp]; exact hh
  have hn2 : hp.1 = 0 ∨ (l.length : Int) - hp.1 < hp.2.1 := by rw [hhp]; exact hn
  have hr2 : 0 ≤ hp.1 ∧ hp.1 ≤ 5 := by rw [hhp]; exact hr0
  obtain ⟨fr, n, fo⟩ := hp
  dsimp only at hh2 hn2 hr2
  subst hh2
  have e1 : wrap64 ((l.length : Int) - fr) = l.length - fr := by unfold wrap64; omega
  obtain ⟨z, hz⟩ : ∃ z : Bool, z = (fr == 0) := ⟨_, rfl⟩
  obtain ⟨y, hy⟩ : ∃ y : Bool, y = decide (n > (l.length : Int) - fr) := ⟨_, rfl⟩
  have hzy : z = true ∨ z = false ∧ y = true := by
    by_cases h0 : fr = 0
    · left; rw [hz, h0]; rfl
    · right; exact ⟨by rw [hz]; exact beq_eq_false_iff_ne.2 h0, by rw [hy]; exact decide_eq_true (hn2.resolve_left h0)⟩
  have tz := hz.symm
  have ty := hy.symm
  have ty2 : decide ((l.length : Int) - fr < n) = y := hy.symm
  clear hg hr hb hh hX hbx hhp hn hr0 hn2 hr2 hz hy
  go_enter Tryd.func14, Tryd.ntmps14
  go_upto_region 1 with fail
  refine wp_wld (w2 := X) (by rw [HX.out]; rfl) ?_
  clear HX
  go_upto_block 0 with (go_at_call 18; (with_reducible refine (HC.out).mono ?_); rintro e w1 ⟨ev, rfl, hF, hB⟩; obtain rfl : ev = .pointer none := hF; have HB1 := Aside0.mk hB; have HQ1 := Aside0.mk ((hB.block w.heap.size (blk_lt HQ.out)).trans HQ.out); clear hB; dsimp only)
  rcases hzy with rfl | ⟨rfl, rfl⟩
  all_goals
    go_wp2_with (refine wpList_store_row rfl 43 _ _ rfl w.heap.size _ rfl rfl 43 _ HQ1.out pktSize rfl (by simp [Value.oneCell']) ?_)
    refine bodyPost_ret (results_dec Tryd.results14 rfl (setRow_block HQ1.out) Tryd.underlying43 rfl pktSize) rfl ⟨noCells.toList, _, rfl, noM _ _, rfl, ?_⟩
    exact setRow_below (HBX.out.trans (HB1.out.mono HBX.out.size)) (Nat.le_refl _) _
theorem subG_len (l : List Int) (n : Int) : ∀ (k : Nat) (s : CS), (subG l n k s).p.asks.length ≤ s.p.asks.length + k ∧ (subG l n k s).p.codes = s.p.codes ∧ (subG l n k s).p.filters = s.p.filters
  | 0, s => ⟨by simp [subG], rfl, rfl⟩
  | k + 1, s => by
    simp only [subG]
    by_cases h : cMore s.a s.f n none = true
    · rw [if_pos h]
      have := subG_len l n k ⟨(rByte l (rText l s.a s.f).a (rText l s.a s.f).f).a, (rByte l (rText l s.a s.f).a (rText l s.a s.f).f).f, uAsks s.p (s.p.asks ++ [⟨(rText l s.a s.f).v, (rByte l (rText l s.a s.f).a (rText l s.a s.f).f).v⟩])⟩
      simp only [uAsks, List.length_append, List.length_singleton] at this
      exact ⟨by have := this.1; simp only [uAsks]; omega, this.2.1, this.2.2⟩
    · rw [if_neg h]; exact ⟨by omega, rfl, rfl⟩
theorem sacG_len (l : List Int) (n : Int) : ∀ (k : Nat) (s : CS), (sacG l n k s).p.codes.length ≤ s.p.codes.length + k ∧ (sacG l n k s).p.asks = s.p.asks ∧ (sacG l n k s).p.filters = s.p.filters
  | 0, s => ⟨by simp [sacG], rfl, rfl⟩
  | k + 1, s => by
    simp only [sacG]
    by_cases h : cMore s.a s.f n none = true
    · rw [if_pos h]
      have := sacG_len l n k ⟨(rByte l s.a s.f).a, (rByte l s.a s.f).f, uCodes s.p (s.p.codes ++ [(rByte l s.a s.f).v])⟩
      simp only [uCodes, List.length_append, List.length_singleton] at this
      exact ⟨by have := this.1; simp only [uCodes]; omega, this.2.1, this.2.2⟩
    · rw [if_neg h]; exact ⟨by omega, rfl, rfl⟩
theorem unsG_len (l : List Int) (n : Int) : ∀ (k : Nat) (s : CS), (unsG l n k s).p.filters.length ≤ s.p.filters.length + k ∧ (unsG l n k s).p.asks = s.p.asks ∧ (unsG l n k s).p.codes = s.p.codes
  | 0, s => ⟨by simp [unsG], rfl, rfl⟩
  | k + 1, s => by
    simp only [unsG]
    by_cases h : cMore s.a s.f n none = true
    · rw [if_pos h]
      have := unsG_len l n k ⟨(rText l s.a s.f).a, (rText l s.a s.f).f, uFilters s.p (s.p.filters ++ [(rText l s.a s.f).v])⟩
      simp only [uFilters, List.length_append, List.length_singleton] at this
      exact ⟨by have := this.1; simp only [uFilters]; omega, this.2.1, this.2.2⟩
    · rw [if_neg h]; exact ⟨by omega, rfl, rfl⟩
def lists3 (p q : Pkt) : Prop := p.asks = q.asks ∧ p.codes = q.codes ∧ p.filters = q.filters
theorem sWill_lists (l : List Int) (s : CS) : lists3 (sWill l s).p s.p := by unfold sWill; split <;> exact ⟨rfl, rfl, rfl⟩
theorem sUser_lists (l : List Int) (s : CS) : lists3 (sUser l s).p s.p := by unfold sUser; split <;> exact ⟨rfl, rfl, rfl⟩
theorem sPass_lists (l : List Int) (s : CS) : lists3 (sPass l s).p s.p := by unfold sPass; split <;> exact ⟨rfl, rfl, rfl⟩
theorem cHead_lists (l : List Int) (a : Int) (f : Option (Int × Int)) (p : Pkt) : lists3 (cHead l a f p).p p := ⟨rfl, rfl, rfl⟩
theorem lists3.trans {p q r : Pkt} (h : lists3 p q) (h2 : lists3 q r) : lists3 p r := ⟨h.1.trans h2.1, h.2.1.trans h2.2.1, h.2.2.trans h2.2.2⟩
theorem cConn_lists (l : List Int) (a : Int) (f : Option (Int × Int)) (p : Pkt) : lists3 (cConn l a f p).p p :=
  (sPass_lists l _).trans ((sUser_lists l _).trans ((sWill_lists l _).trans (cHead_lists l a f p)))
theorem fFields_len (l : List Int) (k fl : Int) : (fFields l k fl).p.asks.length ≤ l.length + 1 ∧ (fFields l k fl).p.codes.length ≤ l.length + 1 ∧ (fFields l k fl).p.filters.length ≤ l.length + 1 := by
  unfold fFields
  have h0 : ∀ k, (pKind k).asks = [] ∧ (pKind k).codes = [] ∧ (pKind k).filters = [] := fun k => ⟨rfl, rfl, rfl⟩
  by_cases h1 : k = 1
  · rw [if_pos h1]
    have := cConn_lists l 0 none (pKind 1)
    rw [this.1, this.2.1, this.2.2]
    simp [pKind, noPkt]
  · rw [if_neg h1]
    by_cases h2 : k = 2
    · rw [if_pos h2]; simp [fConnack, pKind, noPkt, uCode, uPresent]
    · rw [if_neg h2]
      by_cases h3 : k = 3
      · rw [if_pos h3]
        unfold fPublish sId
        dsimp only
        split <;> simp [uPayload, uId, uTopic, pPub, uRetain, uQos, uDup, pKind, noPkt]
      · rw [if_neg h3]
        by_cases h8 : k = 8
        · rw [if_pos h8]
          have := subG_len l l.length (l.length + 1) (cId l (pKind 8))
          simp only [cId, uId, pKind, noPkt, List.length_nil] at this
          dsimp only
          refine ⟨by simp only [cId, uId, pKind, noPkt]; omega, ?_, ?_⟩
          · rw [show (subG l l.length (l.length + 1) (cId l (pKind 8))).p.codes = [] from this.2.1]; simp
          · rw [show (subG l l.length (l.length + 1) (cId l (pKind 8))).p.filters = [] from this.2.2]; simp
        · rw [if_neg h8]
          by_cases h9 : k = 9
          · rw [if_pos h9]
            have := sacG_len l l.length (l.length + 1) (cId l (pKind 9))
            simp only [cId, uId, pKind, noPkt, List.length_nil] at this
            dsimp only
            refine ⟨?_, by simp only [cId, uId, pKind, noPkt]; omega, ?_⟩
            · rw [show (sacG l l.length (l.length + 1) (cId l (pKind 9))).p.asks = [] from this.2.1]; simp
            · rw [show (sacG l l.length (l.length + 1) (cId l (pKind 9))).p.filters = [] from this.2.2]; simp
          · rw [if_neg h9]
            by_cases h10 : k = 10
            · rw [if_pos h10]
              have := unsG_len l l.length (l.length + 1) (cId l (pKind 10))
              simp only [cId, uId, pKind, noPkt, List.length_nil] at this
              dsimp only
              refine ⟨?_, ?_, by simp only [cId, uId, pKind, noPkt]; omega⟩
              · rw [show (unsG l l.length (l.length + 1) (cId l (pKind 10))).p.asks = [] from this.2.1]; simp
              · rw [show (unsG l l.length (l.length + 1) (cId l (pKind 10))).p.codes = [] from this.2.2]; simp
            · rw [if_neg h10]
              split <;> simp [cId, uId, pKind, noPkt]
set_option maxRecDepth 100000 in
set_option maxHeartbeats 4000000 in
theorem dec_go {w : World} (hg : Gl w) (l : List Int) (most : Int) (ad : Addr) (c : Nat) (hlc : l.length ≤ c) (hr : (Kd.int .u8).C w (some ad) l.length l) (hb : ∀ x ∈ l, 0 ≤ x ∧ x ≤ 255) (fr n : Int) (hh : headP l (topP most) = (fr, n, none))
    (h1 : 2 ≤ fr) (h2 : fr ≤ 5) (h3 : 0 ≤ n) (h4 : fr + n ≤ l.length) (hk0 : 1 ≤ rd l 0 / 16) (hk1 : rd l 0 / 16 ≤ 14) (hll : l.length ≤ 1099511627770) (l2 : List Int) (hl2 : l2 = (l.drop fr.toNat).take n.toNat) (r : FR) (hrr : r = fFields l2 (rd l 0 / 16) (rd l 0 % 16)) (res : DR)
    (hres : res = (match (r.bad.or r.f) with | some q => ⟨noPkt, 0, some (wrap64 (q.1 + fr), q.2)⟩ | none => if pchk r.p = 0 then ⟨r.p, fr + n, none⟩ else ⟨noPkt, 0, some (0, pchk r.p)⟩)) :
    Calls Tryd.prog 14 #[.slice (some ad) l.length c, .int .i64 most] w fun e w' => DecAt w w' e res := by
  obtain ⟨X, hX⟩ : ∃ X : World, X = w.alloc (.cells noCells 43) := ⟨_, rfl⟩
  have hbx : Below w.heap.size w X := by rw [hX]; exact below_alloc (Below.refl w.heap.size w) (.cells noCells 43)
  have HG := Aside0.mk (hg.below hbx hg.sz hbx.size)
  have hsz := hg.sz
  have HR := Aside0.mk (Kd.C_below hr hbx)
  have HB := Aside0.mk hb
  have HBX := Aside0.mk hbx
  have HQ := Aside0.mk (show X.heap[w.heap.size]? = some (.cells noCells 43 (0, 0)) by rw [hX]; exact heap_alloc_new w (.cells noCells 43))
  have HX := Aside0.mk hX
  have HC := Aside0.mk (show Calls Tryd.prog 18 #[.slice (some ad) l.length c, .int .i64 (min (max most 2) 268435455)] X fun e w' => HeadAt X w' e (fr, n, none) by rw [← hh]; exact head_any HG.out l _ _ c HR.out HB.out)
  obtain ⟨b0, hb0⟩ : ∃ b0, b0 = rd l 0 := ⟨_, rfl⟩
  have hbr := rd_range l hb 0
  rw [← hb0] at hbr hk0 hk1 hrr
  obtain ⟨k0, k1⟩ := hbr
  have hx0 : X.cell? ad = some (.int .u8 b0) := by
    obtain ⟨ad', he, hx⟩ := Kd.at_int HR.out 0 (by decide) (by omega)
    injection he with he
    subst he
    rw [hb0]
    have e : ad.add ((0 : Int).toNat) = ad := by unfold Addr.add; split <;> simp_all
    rw [e] at hx; exact hx
  have HX0 := Aside0.mk hx0
  have HAL := Aside0.mk (blk_lt_cell hx0)
  have hlen2 : l2.length = n.toNat := by rw [hl2, List.length_take, List.length_drop]; omega
  have hw2 : ∀ x ∈ l2, 0 ≤ x ∧ x ≤ 255 := fun x hx => hb x (by rw [hl2] at hx; exact List.mem_of_mem_drop (List.mem_of_mem_take hx))
  have hmid := Kd.C_mid (k := Kd.int .u8) (c := c) (lo := fr.toNat) (hi := (fr + n).toNat) HR.out (by omega) (by omega) hlc
  have hlist : (l.take (fr + n).toNat).drop fr.toNat = l2 := by rw [hl2, List.drop_take]; congr 1; omega
  rw [hlist, show (fr.toNat * (Kd.int .u8).sz) = fr.toNat from Nat.mul_one _, Option.map_some] at hmid
  obtain ⟨A2, hA2⟩ : ∃ A2, (if c = fr.toNat then some ad else some (ad.add fr.toNat)) = A2 := ⟨_, rfl⟩
  rw [hA2] at hmid
  have HM := Aside0.mk hmid
  have HW2 := Aside0.mk hw2
  have HN2 := Aside0.mk (show (fr + n).toNat - fr.toNat = l2.length by omega)
  have HLL := Aside0.mk (show l2.length ≤ 1099511627770 by omega)
  have HRR := Aside0.mk hrr
  have HRES := Aside0.mk hres
  have HLN := Aside0.mk (show n = (l2.length : Int) by omega)
  have e1 : wrap64 ((l.length : Int) - fr) = l.length - fr := by unfold wrap64; omega
  have e2 : wrap64 (fr + n) = fr + n := by unfold wrap64; omega
  have t1 : (fr == 0) = false := beq_eq_false_iff_ne.2 (by omega)
  have t2 : decide (n > (l.length : Int) - fr) = false := decide_eq_false (by omega)
  have t3 : decide ((l.length : Int) - fr < n) = false := decide_eq_false (by omega)
  have c1 : 0 ≤ fr ∧ fr ≤ max (fr + n) 0 := ⟨by omega, by omega⟩
  have c2 : fr + n ≤ (c : Int) := by omega
  have c3 : 0 ≤ fr + n := by omega
  have tz : ((l.length : Int) == 0) = false := beq_eq_false_iff_ne.2 (by omega)
  have p0 : (0 : Int) < l.length := by omega
  have pn : 0 < l.length := by omega
  have e15 := and15 b0 k0 k1
  have ew1 : wrap64 (b0 / 16) = b0 / 16 := by unfold wrap64; omega
  have ew2 : wrap64 (b0 % 16) = b0 % 16 := by unfold wrap64; omega
  have HK := Aside0.mk (And.intro (And.intro hk0 hk1) (And.intro (show 0 ≤ b0 % 16 by omega) (show b0 % 16 ≤ 15 by omega)))
  clear hg hr hb hh hX hbx hx0 hmid hw2 hlist hlen2 hl2 hrr hres hll hb0 h1 h2 h3 h4 hk0 hk1 hlc
  go_enter Tryd.func14, Tryd.ntmps14
  go_upto_region 1 with fail
  refine wp_wld (w2 := X) (by rw [HX.out]; rfl) ?_
  clear HX
  go_upto_region 7 with (first
    | (go_at_call 18; (with_reducible refine (HC.out).mono ?_); rintro e w1 ⟨ev, rfl, hF, hB⟩; obtain rfl : ev = .pointer none := hF; have HB1 := Aside0.mk hB; clear hB; dsimp only)
    | (go_at_call 19; (with_reducible refine (read_len (l := l2) HN2.out (Kd.C_below HM.out HB1.out) (Nat.le_trans HLL.out (by decide)) HW2.out).mono ?_); rintro e w3 ⟨B, rfl, hR, hB⟩; have HRD := Aside0.mk hR; have HB3 := Aside0.mk hB; clear hR hB))
  obtain ⟨base, hbase⟩ : ∃ base, base = w1.heap.size := ⟨_, rfl⟩
  have HBS := Aside0.mk (show w.heap.size < base ∧ 4 ≤ base ∧ X.heap.size ≤ base ∧ base ≤ w3.heap.size by
    have a1 := blk_lt HQ.out; have a2 := HB1.out.size; have a3 := HB3.out.size; rw [hbase]; omega)
  obtain ⟨C, hC⟩ : ∃ C, C = w3.heap.size := ⟨_, rfl⟩
  obtain ⟨W3, hW3⟩ : ∃ W : World, W = w3.alloc (.cells #[.pointer (some ⟨B, 0, none⟩), .int .i64 n, .pointer none] 73) := ⟨_, rfl⟩
  have hbw : Below w3.heap.size w3 W3 := by rw [hW3]; exact below_alloc (Below.refl _ _) _
  have hsz3 : w3.heap.size < W3.heap.size := by rw [hW3]; simp
  have HCR := Aside0.mk (show CrIs W3 base C B l2 0 none n none from ⟨by rw [hbase]; exact HRD.out.below hbw, ⟨_, by rw [hW3, hC]; exact heap_alloc_new _ _, rfl⟩, by rw [hC]; exact HBS.out.2.2.2⟩)
  have hXW : Below X.heap.size X W3 := (HB1.out.trans (HB3.out.mono HB1.out.size)).trans (hbw.mono (by have := HBS.out; omega))
  have HXW := Aside0.mk hXW
  have HQ3 := Aside0.mk ((hXW.block _ (blk_lt HQ.out)).trans HQ.out)
  have HW3 := Aside0.mk (show base ≤ W3.heap.size by have := HBS.out; omega)
  have HAD := Aside0.mk (show ad.block < base by have := HAL.out; have := HBS.out; omega)
  have x0 : W3.cell? ad = some (.int .u8 b0) := by
    rw [← HX0.out]; simp only [World.cell?, hXW.block ad.block HAL.out]
  have HG3 := Aside0.mk (HG.out.below hXW HG.out.sz hXW.size)
  have hfa : ∀ W : World, Below W3.heap.size W3 W → Calls Tryd.prog 20 #[.pointer (some ⟨C, 0, none⟩), .int .i64 (wrap64 (b0 / 16)), .int .i64 (wrap64 (b0 % 16))] W fun e w' => ∃ cs : List Value, e = .returned (.agg cs.toArray) ∧ kPkt.M w' base (fun _ => True) r.p cs ∧ CrIs w' base C B l2 r.a r.f n r.bad ∧ Fr (okP W base W.heap.size) W w' := fun W hW => by
    rw [HRR.out, ew1, ew2]
    exact fields_any (HCR.out.below hW) HLN.out _ _ HK.out.1.1 HK.out.1.2 HK.out.2.1 HK.out.2.2
  have HFA := Aside0.mk (hfa W3.drew (below_drew1 (Below.refl _ _)))
  have HFB := Aside0.mk (hfa (W3.drew.alloc (.cells noCells 43)) ((below_drew1 (Below.refl _ _)).alloc (Nat.le_refl _) _))
  have HX5 := Aside0.mk (fun (w5 : World) {P : Nat} {cs : List Value} (h : D7 W3 base C B l2 n r P cs w5) => show w5.cell? ad = some (.int .u8 b0) by
    rw [← x0]; simp only [World.cell?, h.fr.block ad.block (blk_lt_cell x0) (by have := HAD.out; omega)])
  refine wp_wld (w2 := W3) (by rw [hW3]) ?_
  rw [← hC]
  clear hW3 hbw hsz3 hXW hfa HX0 HRD HM HB hC hbase
  refine start_ (n := 14) (S := fun w' => w'.cell? ad = some (.int .u8 b0)) (ds := [13]) #[false, false, false, false, false, false, false, false, false, false, false, false, false, false] (by kernel_rfl) rfl rfl (x0) (fun hHeld => ?_)
  refine pure_ (i := 0) (N := some 50) (v := ?_) (a' := ?_) #[true, false, false, false, false, false, false, false, false, false, false, false, false, false] rfl rfl (by kernel_rfl) (fun _ _ _ h => h) (Or.inl ⟨by rfl, ?_⟩) ?_ ?_
  rotate_left
  · intro w'
    go_simp
    with_reducible rfl
  rotate_left
  · simp only [Act.put, List.setIfInBounds_toArray, List.set_cons_zero, List.set_cons_succ, i64_w, i32_w]
    rfl
  refine pure_ (i := 1) (N := some 51) (v := ?_) (a' := ?_) #[true, true, false, false, false, false, false, false, false, false, false, false, false, false] rfl rfl (by kernel_rfl) (fun _ _ _ h => h) (Or.inl ⟨by rfl, ?_⟩) ?_ ?_
  rotate_left
  · intro w'
    go_simp
    with_reducible rfl
  rotate_left
  · simp only [Act.put, List.setIfInBounds_toArray, List.set_cons_zero, List.set_cons_succ, i64_w, i32_w]
    rfl
  refine pure_ (i := 2) (N := some 52) (v := ?_) (a' := ?_) #[true, true, true, false, false, false, false, false, false, false, false, false, false, false] rfl rfl (by kernel_rfl) (fun _ _ _ h => h) (Or.inl ⟨by rfl, ?_⟩) ?_ ?_
  rotate_left
  · intro w'
    go_simp
    with_reducible rfl
  rotate_left
  · simp only [Act.put, List.setIfInBounds_toArray, List.set_cons_zero, List.set_cons_succ, i64_w, i32_w]
    rfl
  refine pure_ (i := 6) (N := some 56) (v := ?_) (a' := ?_) #[true, true, true, false, false, false, true, false, false, false, false, false, false, false] rfl rfl (by kernel_rfl) (fun _ _ _ h => h) (Or.inl ⟨by rfl, ?_⟩) ?_ ?_
  rotate_left
  · intro w'
    go_simp
    with_reducible rfl
  rotate_left
  · simp only [Act.put, List.setIfInBounds_toArray, List.set_cons_zero, List.set_cons_succ, i64_w, i32_w]
    rfl
  refine pure_ (i := 7) (N := some 57) (v := ?_) (a' := ?_) #[true, true, true, false, false, false, true, true, false, false, false, false, false, false] rfl rfl (by kernel_rfl) (fun _ _ _ h => h) (Or.inl ⟨by rfl, ?_⟩) ?_ ?_
  rotate_left
  · intro w'
    go_simp
    with_reducible rfl
  rotate_left
  · simp only [Act.put, List.setIfInBounds_toArray, List.set_cons_zero, List.set_cons_succ, i64_w, i32_w]
    rfl
  refine take_ (i := 3) (N := some 53) (v := ?_) (a' := ?_) #[true, true, true, true, false, false, true, true, false, false, false, false, false, false] rfl rfl (by kernel_rfl) (fun _ _ _ h => h) (Or.inl ⟨by rfl, ?_⟩) hHeld ?_ ?_
  rotate_left
  · intro w' s0
    go_simp
    with_reducible rfl
  rotate_left
  · simp only [Act.put, List.setIfInBounds_toArray, List.set_cons_zero, List.set_cons_succ, i64_w, i32_w]
    rfl
  refine pure_ (i := 4) (N := some 54) (v := ?_) (a' := ?_) #[true, true, true, true, true, false, true, true, false, false, false, false, false, false] rfl rfl (by kernel_rfl) (fun _ _ _ h => h) (Or.inl ⟨by rfl, ?_⟩) ?_ ?_
  rotate_left
  · intro w'
    go_simp
    with_reducible rfl
  rotate_left
  · simp only [Act.put, List.setIfInBounds_toArray, List.set_cons_zero, List.set_cons_succ, i64_w, i32_w]
    rfl
  refine pure_ (i := 5) (N := some 55) (v := ?_) (a' := ?_) #[true, true, true, true, true, true, true, true, false, false, false, false, false, false] rfl rfl (by kernel_rfl) (fun _ _ _ h => h) (Or.inl ⟨by rfl, ?_⟩) ?_ ?_
  rotate_left
  · intro w'
    go_simp
    with_reducible rfl
  rotate_left
  · simp only [Act.put, List.setIfInBounds_toArray, List.set_cons_zero, List.set_cons_succ, i64_w, i32_w]
    rfl
  refine take_ (i := 8) (N := some 58) (v := ?_) (a' := ?_) #[true, true, true, true, true, true, true, true, true, false, false, false, false, false] rfl rfl (by kernel_rfl) (fun _ _ _ h => h) (Or.inl ⟨by rfl, ?_⟩) hHeld ?_ ?_
  rotate_left
  · intro w' s0
    go_simp
    with_reducible rfl
  rotate_left
  · simp only [Act.put, List.setIfInBounds_toArray, List.set_cons_zero, List.set_cons_succ, i64_w, i32_w]
    rfl
  refine pure_ (i := 9) (N := some 59) (v := ?_) (a' := ?_) #[true, true, true, true, true, true, true, true, true, true, false, false, false, false] rfl rfl (by kernel_rfl) (fun _ _ _ h => h) (Or.inl ⟨by rfl, ?_⟩) ?_ ?_
  rotate_left
  · intro w'
    go_simp
    with_reducible rfl
  rotate_left
  · simp only [Act.put, List.setIfInBounds_toArray, List.set_cons_zero, List.set_cons_succ, i64_w, i32_w]
    rfl
  refine pure_ (i := 10) (N := some 60) (v := ?_) (a' := ?_) #[true, true, true, true, true, true, true, true, true, true, true, false, false, false] rfl rfl (by kernel_rfl) (fun _ _ _ h => h) (Or.inl ⟨by rfl, ?_⟩) ?_ ?_
  rotate_left
  · intro w'
    go_simp
    with_reducible rfl
  rotate_left
  · simp only [Act.put, List.setIfInBounds_toArray, List.set_cons_zero, List.set_cons_succ, i64_w, i32_w]
    rfl
  refine join_ (σ := Nat × List Value) 1 #[true, true, true, true, true, true, true, true, true, true, true, true, true, false] (fun s => [(61, .agg s.2.toArray), (11, .pointer (some ⟨s.1, 0, none⟩))]) (fun s w' => D7 W3 base C B l2 n r s.1 s.2 w') ?_ ?_
  rotate_left
  · intro hCont
    refine two_ (i := 11) (j := 12) (Ni := some 61) (Nj := some 11) #[true, true, true, true, true, true, true, true, true, true, true, true, false, false] #[true, true, true, true, true, true, true, true, true, true, true, false, true, false] rfl rfl rfl rfl (by kernel_rfl) (by decide) (by decide) (fun K hK => ?_) (fun K hK => ?_)
    · skip
      refine goes_ Tryd.func20 (by kernel_rfl) rfl #[.pointer (some ⟨C, 0, none⟩), .int .i64 (wrap64 (b0 / 16)), .int .i64 (wrap64 (b0 % 16))] (by rfl) rfl rfl (by simp only [List.map_toArray, List.map_cons, List.map_nil]; rfl) ?_
      with_reducible refine (HFA.out).mono ?_
      rintro e w4 ⟨cs4, rfl, hM4, hC4, hF4⟩
      refine ⟨_, rfl, ?_⟩
      refine hK.out _ _ ((frCell4 hF4 HAD.out hHeld)) (fun hHeld => ?_)
      clear hK K
      refine norm_ (a' := ?_) ?_ ?_
      rotate_left
      · show Act.put _ (some 61) _ = _
        simp only [Act.put, List.setIfInBounds_toArray, List.set_cons_zero, List.set_cons_succ, i64_w, i32_w]
        rfl
      refine one_ (i := 12) (N := some 11) #[true, true, true, true, true, true, true, true, true, true, true, true, true, false] rfl rfl (by kernel_rfl) (by decide) (fun K hK => ?_)
      refine value_ (w1 := w4.alloc (.cells noCells 43)) (v := ?_) (by rfl) rfl ?_ ?_
      rotate_left 1
      · go_simp
        constructor
        · rfl
        · rfl
      refine hK.out _ _ ((World.cell?_alloc_lt _ _ ad (blk_lt_cell hHeld)).trans hHeld) (fun hHeld => ?_)
      clear hK K
      refine norm_ (a' := ?_) ?_ ?_
      rotate_left
      · show Act.put _ (some 11) _ = _
        simp only [Act.put, List.setIfInBounds_toArray, List.set_cons_zero, List.set_cons_succ, i64_w, i32_w]
        rfl
      exact norm_ (by simp only [putAll, Act.put, List.setIfInBounds_toArray, List.set_cons_zero, List.set_cons_succ]) (hCont (w4.heap.size, cs4) _ (D7.callFirst HW3.out hM4 hC4 hF4))
    · skip
      refine value_ (w1 := W3.drew.alloc (.cells noCells 43)) (v := ?_) (by rfl) rfl ?_ ?_
      rotate_left 1
      · go_simp
        constructor
        · rfl
        · rfl
      refine hK.out _ _ ((World.cell?_alloc_lt _ _ ad (blk_lt_cell hHeld)).trans hHeld) (fun hHeld => ?_)
      clear hK K
      refine norm_ (a' := ?_) ?_ ?_
      rotate_left
      · show Act.put _ (some 11) _ = _
        simp only [Act.put, List.setIfInBounds_toArray, List.set_cons_zero, List.set_cons_succ, i64_w, i32_w]
        rfl
      refine one_ (i := 11) (N := some 61) #[true, true, true, true, true, true, true, true, true, true, true, true, true, false] rfl rfl (by kernel_rfl) (by decide) (fun K hK => ?_)
      refine goes_ Tryd.func20 (by kernel_rfl) rfl #[.pointer (some ⟨C, 0, none⟩), .int .i64 (wrap64 (b0 / 16)), .int .i64 (wrap64 (b0 % 16))] (by rfl) rfl rfl (by simp only [List.map_toArray, List.map_cons, List.map_nil]; rfl) ?_
      with_reducible refine (HFB.out).mono ?_
      rintro e w4 ⟨cs4, rfl, hM4, hC4, hF4⟩
      refine ⟨_, rfl, ?_⟩
      refine hK.out _ _ ((frCell4 hF4 HAD.out hHeld)) (fun hHeld => ?_)
      clear hK K
      refine norm_ (a' := ?_) ?_ ?_
      rotate_left
      · show Act.put _ (some 61) _ = _
        simp only [Act.put, List.setIfInBounds_toArray, List.set_cons_zero, List.set_cons_succ, i64_w, i32_w]
        rfl
      exact norm_ (by simp only [putAll, Act.put, List.setIfInBounds_toArray, List.set_cons_zero, List.set_cons_succ]) (hCont (W3.heap.size, cs4) _ (D7.allocFirst HW3.out hM4 hC4 hF4))
  rintro ⟨P, cs⟩ w5 hD
  have HD5 := Aside0.mk hD
  have hHeld : w5.cell? ad = some (.int .u8 b0) := HX5.out w5 hD
  clear hD
  refine norm_ (a' := ?_) ?_ ?_
  rotate_left
  · simp only [putAll, Act.put, List.setIfInBounds_toArray, List.set_cons_zero, List.set_cons_succ]
    rfl
  refine last_ (i := 13) (N := none) #[true, true, true, true, true, true, true, true, true, true, true, true, true, true] rfl rfl (by kernel_rfl) (by decide) (fun K hK => ?_)
  refine skip_ (w1 := w5.setRow P cs.toArray) (by rfl) rfl (exec_store_row (ty := 43) (x := .tmp 11) (y := .tmp 61) rfl rfl rfl HD5.out.p HD5.out.size HD5.out.sz2 HD5.out.one) ?_
  refine hK.out _ _ ?_
  clear hK K
  refine done_ (by kernel_rfl) ?_
  have hd8 : D8 W3 base C B P w.heap.size l2 n r (w5.setRow P cs.toArray) := HD5.out.store HW3.out HBS.out.1 HQ3.out
  generalize w5.setRow P cs.toArray = W7 at *
  have HD8 := Aside0.mk hd8
  clear hd8 x0 HD5 HX5 HFA HFB
  obtain ⟨bd, hbd⟩ : ∃ bd, bd = r.bad.or r.f := ⟨_, rfl⟩
  have HBD := Aside0.mk hbd
  clear hbd
  simp only [Exit.then]
  rename_i hK0 hh0
  refine hK0 _ _ ?_
  clear hK0
  refine wp_seq_k (fun K9 hK9 => ?_)
  go_cut [] (fun wx => Aside0 (D9 W3 base C P w.heap.size r.p bd wx))
  case first =>
    as_aux_lemma =>
      obtain ⟨ev, y1, y2⟩ := HD8.out.cr.ex
      cases hb : r.bad with
      | some q =>
        rw [hb] at y2
        obtain ⟨F, rfl, hF, hbF⟩ := y2
        have x2 : W7.cell? ⟨C, 2, none⟩ = some (.pointer (some ⟨F, 0, none⟩)) := blk_cell y1 2
        have HE := Aside0.mk (show D9 W3 base C P w.heap.size r.p bd W7 by rw [HBD.out, hb]; have := HD8.out.d9; rw [hb] at this; exact this)
        clear y1 hF
        go_wp2
        go_meet
        case rel => exact HE
      | none =>
        rw [hb] at y2
        have hev : ev = .pointer none := y2
        subst hev
        have x2 : W7.cell? ⟨C, 2, none⟩ = some (.pointer none) := blk_cell y1 2
        have x0 : W7.cell? ⟨C, 0, none⟩ = some (.pointer (some ⟨B, 0, none⟩)) := blk_cell y1 0
        clear y1 y2
        go_upto_region 9 with fail
        cases hf : r.f with
        | none =>
          have HD9 := Aside0.mk (show RdIs W7.drew base B l2 r.a none by rw [← hf]; exact HD8.out.cr.rd.below (below_drew1 (Below.refl _ _)))
          have HE := Aside0.mk (show D9 W3 base C P w.heap.size r.p bd W7.drew by rw [HBD.out, hb, hf]; have := (HD8.out.below (below_drew1 (Below.refl _ _))).d9; rw [hb] at this; exact this)
          refine start_ (n := 10) (S := fun w' => w'.cell? ⟨C, 0, none⟩ = some (.pointer (some ⟨B, 0, none⟩))) (ds := []) #[false, false, false, false, false, false, false, false, false, false] (by kernel_rfl) rfl rfl (x0) (fun hHeld => ?_)
          refine pure_ (i := 0) (N := some 67) (v := ?_) (a' := ?_) #[true, false, false, false, false, false, false, false, false, false] rfl rfl (by kernel_rfl) (fun _ _ _ h => h) (Or.inl ⟨by rfl, ?_⟩) ?_ ?_
          rotate_left
          · intro w'
            go_simp
            with_reducible rfl
          rotate_left
          · simp only [Act.put, List.setIfInBounds_toArray, List.set_cons_zero, List.set_cons_succ, i64_w, i32_w]
            rfl
          refine pure_ (i := 1) (N := some 68) (v := ?_) (a' := ?_) #[true, true, false, false, false, false, false, false, false, false] rfl rfl (by kernel_rfl) (fun _ _ _ h => h) (Or.inl ⟨by rfl, ?_⟩) ?_ ?_
          rotate_left
          · intro w'
            go_simp
            with_reducible rfl
          rotate_left
          · simp only [Act.put, List.setIfInBounds_toArray, List.set_cons_zero, List.set_cons_succ, i64_w, i32_w]
            rfl
          refine pure_ (i := 2) (N := some 69) (v := ?_) (a' := ?_) #[true, true, true, false, false, false, false, false, false, false] rfl rfl (by kernel_rfl) (fun _ _ _ h => h) (Or.inl ⟨by rfl, ?_⟩) ?_ ?_
          rotate_left
          · intro w'
            go_simp
            with_reducible rfl
          rotate_left
          · simp only [Act.put, List.setIfInBounds_toArray, List.set_cons_zero, List.set_cons_succ, i64_w, i32_w]
            rfl
          refine pure_ (i := 5) (N := some 72) (v := ?_) (a' := ?_) #[true, true, true, false, false, true, false, false, false, false] rfl rfl (by kernel_rfl) (fun _ _ _ h => h) (Or.inl ⟨by rfl, ?_⟩) ?_ ?_
          rotate_left
          · intro w'
            go_simp
            with_reducible rfl
          rotate_left
          · simp only [Act.put, List.setIfInBounds_toArray, List.set_cons_zero, List.set_cons_succ, i64_w, i32_w]
            rfl
          refine pure_ (i := 6) (N := some 73) (v := ?_) (a' := ?_) #[true, true, true, false, false, true, true, false, false, false] rfl rfl (by kernel_rfl) (fun _ _ _ h => h) (Or.inl ⟨by rfl, ?_⟩) ?_ ?_
          rotate_left
          · intro w'
            go_simp
            with_reducible rfl
          rotate_left
          · simp only [Act.put, List.setIfInBounds_toArray, List.set_cons_zero, List.set_cons_succ, i64_w, i32_w]
            rfl
          refine pure_ (i := 7) (N := some 74) (v := ?_) (a' := ?_) #[true, true, true, false, false, true, true, true, false, false] rfl rfl (by kernel_rfl) (fun _ _ _ h => h) (Or.inl ⟨by rfl, ?_⟩) ?_ ?_
          rotate_left
          · intro w'
            go_simp
            with_reducible rfl
          rotate_left
          · simp only [Act.put, List.setIfInBounds_toArray, List.set_cons_zero, List.set_cons_succ, i64_w, i32_w]
            rfl
          refine pure_ (i := 8) (N := some 75) (v := ?_) (a' := ?_) #[true, true, true, false, false, true, true, true, true, false] rfl rfl (by kernel_rfl) (fun _ _ _ h => h) (Or.inl ⟨by rfl, ?_⟩) ?_ ?_
          rotate_left
          · intro w'
            go_simp
            with_reducible rfl
          rotate_left
          · simp only [Act.put, List.setIfInBounds_toArray, List.set_cons_zero, List.set_cons_succ, i64_w, i32_w]
            rfl
          refine take_ (i := 3) (N := some 70) (v := ?_) (a' := ?_) #[true, true, true, true, false, true, true, true, true, false] rfl rfl (by kernel_rfl) (fun _ _ _ h => h) (Or.inl ⟨by rfl, ?_⟩) hHeld ?_ ?_
          rotate_left
          · intro w' s0
            go_simp
            with_reducible rfl
          rotate_left
          · simp only [Act.put, List.setIfInBounds_toArray, List.set_cons_zero, List.set_cons_succ, i64_w, i32_w]
            rfl
          refine one_ (i := 4) (N := some 71) #[true, true, true, true, true, true, true, true, true, false] rfl rfl (by kernel_rfl) (by decide) (fun K hK => ?_)
          refine goes_ Tryd.func21 (by kernel_rfl) rfl #[.pointer (some ⟨B, 0, none⟩)] (by rfl) rfl rfl (by simp only [List.map_toArray, List.map_cons, List.map_nil]; rfl) ?_
          with_reducible refine (err_nil HD9.out).mono ?_
          rintro e w3 ⟨rfl, rfl⟩
          refine ⟨_, rfl, ?_⟩
          refine hK.out _ _ (hHeld) (fun hHeld => ?_)
          clear hK K
          refine norm_ (a' := ?_) ?_ ?_
          rotate_left
          · show Act.put _ (some 71) _ = _
            simp only [Act.put, List.setIfInBounds_toArray, List.set_cons_zero, List.set_cons_succ, i64_w, i32_w]
            rfl
          refine one_ (i := 9) (N := some 76) #[true, true, true, true, true, true, true, true, true, true] rfl rfl (by kernel_rfl) (by decide) (fun K hK => ?_)
          refine goes_ Tryd.func15 (by kernel_rfl) rfl #[.nilIface, .iface 58 (.pointer (some ⟨C, 2, none⟩))] (by rfl) rfl rfl (by simp only [List.map_toArray, List.map_cons, List.map_nil]; rfl) ?_
          with_reducible refine (Errs.as_nil _ _).mono ?_
          rintro e w4 ⟨rfl, rfl⟩
          refine ⟨_, rfl, ?_⟩
          refine hK.out _ _ (hHeld) (fun hHeld => ?_)
          clear hK K
          refine norm_ (a' := ?_) ?_ ?_
          rotate_left
          · show Act.put _ (some 76) _ = _
            simp only [Act.put, List.setIfInBounds_toArray, List.set_cons_zero, List.set_cons_succ, i64_w, i32_w]
            rfl
          refine done_ (by kernel_rfl) ?_
          go_wp2
          go_meet
          case rel => exact HE
        | some q =>
          have HD9 := Aside0.mk (show RdIs W7.drew base B l2 r.a (some q) by rw [← hf]; exact HD8.out.cr.rd.below (below_drew1 (Below.refl _ _)))
          have hb8 : Below W7.heap.size W7 (W7.drew.alloc (.cells #[.int .i64 q.1, .int .i64 q.2] 61)) := (below_drew1 (Below.refl _ _)).alloc (Nat.le_refl _) _
          have hg8 : Gl (W7.drew.alloc (.cells #[.int .i64 q.1, .int .i64 q.2] 61)) := (HG3.out.fr HD8.out.fr (fun k hk e => by have := HBS.out; omega)).fr (Fr.of_below (fun _ => False) hb8) (fun _ _ e => e)
          have hd8 := HD8.out.below hb8
          have y8 := hd8.cr.cells
          have HAS := Aside0.mk (Errs.as_hit ⟨W7.drew.heap.size, 0, none⟩ ⟨C, 2, none⟩ (.pointer none) (W7.drew.alloc (.cells #[.int .i64 q.1, .int .i64 q.2] 61)) hg8.et (by
            obtain ⟨ev, _, _, h2, _, h3⟩ := y8
            rw [hb] at h3
            have : ev = .pointer none := h3
            rw [← this]; exact h2) (by obtain ⟨ev, _, _, _, h2, _⟩ := y8; exact h2 2))
          have HE := Aside0.mk (fun (wa : World) (hba : Below (W7.drew.alloc (.cells #[.int .i64 q.1, .int .i64 q.2] 61)).heap.size (W7.drew.alloc (.cells #[.int .i64 q.1, .int .i64 q.2] 61)) wa) => show D9 W3 base C P w.heap.size r.p bd (wa.setCell ⟨C, 2, none⟩ (.pointer (some ⟨W7.drew.heap.size, 0, none⟩))) by
            rw [HBD.out, hb, hf]
            have hn : (W7.drew.alloc (.cells #[.int .i64 q.1, .int .i64 q.2] 61)).heap[W7.drew.heap.size]? = some (.cells #[.int .i64 q.1, .int .i64 q.2] 61 (0, 0)) := heap_alloc_new _ _
            exact (hd8.below hba).as hb ((hba.block _ (blk_lt hn)).trans hn) (by have h1 := HD8.out.fr.size; have h2 := HW3.out; show base ≤ W7.heap.size; omega))
          clear hb8 hg8 hd8 y8
          refine start_ (n := 10) (S := fun w' => w'.cell? ⟨C, 0, none⟩ = some (.pointer (some ⟨B, 0, none⟩))) (ds := [9]) #[false, false, false, false, false, false, false, false, false, false] (by kernel_rfl) rfl rfl (x0) (fun hHeld => ?_)
          refine pure_ (i := 0) (N := some 67) (v := ?_) (a' := ?_) #[true, false, false, false, false, false, false, false, false, false] rfl rfl (by kernel_rfl) (fun _ _ _ h => h) (Or.inl ⟨by rfl, ?_⟩) ?_ ?_
          rotate_left
          · intro w'
            go_simp
            with_reducible rfl
          rotate_left
          · simp only [Act.put, List.setIfInBounds_toArray, List.set_cons_zero, List.set_cons_succ, i64_w, i32_w]
            rfl
          refine pure_ (i := 1) (N := some 68) (v := ?_) (a' := ?_) #[true, true, false, false, false, false, false, false, false, false] rfl rfl (by kernel_rfl) (fun _ _ _ h => h) (Or.inl ⟨by rfl, ?_⟩) ?_ ?_
          rotate_left
          · intro w'
            go_simp
            with_reducible rfl
          rotate_left
          · simp only [Act.put, List.setIfInBounds_toArray, List.set_cons_zero, List.set_cons_succ, i64_w, i32_w]
            rfl
          refine pure_ (i := 2) (N := some 69) (v := ?_) (a' := ?_) #[true, true, true, false, false, false, false, false, false, false] rfl rfl (by kernel_rfl) (fun _ _ _ h => h) (Or.inl ⟨by rfl, ?_⟩) ?_ ?_
          rotate_left
          · intro w'
            go_simp
            with_reducible rfl
          rotate_left
          · simp only [Act.put, List.setIfInBounds_toArray, List.set_cons_zero, List.set_cons_succ, i64_w, i32_w]
            rfl
          refine pure_ (i := 5) (N := some 72) (v := ?_) (a' := ?_) #[true, true, true, false, false, true, false, false, false, false] rfl rfl (by kernel_rfl) (fun _ _ _ h => h) (Or.inl ⟨by rfl, ?_⟩) ?_ ?_
          rotate_left
          · intro w'
            go_simp
            with_reducible rfl
          rotate_left
          · simp only [Act.put, List.setIfInBounds_toArray, List.set_cons_zero, List.set_cons_succ, i64_w, i32_w]
            rfl
          refine pure_ (i := 6) (N := some 73) (v := ?_) (a' := ?_) #[true, true, true, false, false, true, true, false, false, false] rfl rfl (by kernel_rfl) (fun _ _ _ h => h) (Or.inl ⟨by rfl, ?_⟩) ?_ ?_
          rotate_left
          · intro w'
            go_simp
            with_reducible rfl
          rotate_left
          · simp only [Act.put, List.setIfInBounds_toArray, List.set_cons_zero, List.set_cons_succ, i64_w, i32_w]
            rfl
          refine pure_ (i := 7) (N := some 74) (v := ?_) (a' := ?_) #[true, true, true, false, false, true, true, true, false, false] rfl rfl (by kernel_rfl) (fun _ _ _ h => h) (Or.inl ⟨by rfl, ?_⟩) ?_ ?_
          rotate_left
          · intro w'
            go_simp
            with_reducible rfl
          rotate_left
          · simp only [Act.put, List.setIfInBounds_toArray, List.set_cons_zero, List.set_cons_succ, i64_w, i32_w]
            rfl
          refine pure_ (i := 8) (N := some 75) (v := ?_) (a' := ?_) #[true, true, true, false, false, true, true, true, true, false] rfl rfl (by kernel_rfl) (fun _ _ _ h => h) (Or.inl ⟨by rfl, ?_⟩) ?_ ?_
          rotate_left
          · intro w'
            go_simp
            with_reducible rfl
          rotate_left
          · simp only [Act.put, List.setIfInBounds_toArray, List.set_cons_zero, List.set_cons_succ, i64_w, i32_w]
            rfl
          refine take_ (i := 3) (N := some 70) (v := ?_) (a' := ?_) #[true, true, true, true, false, true, true, true, true, false] rfl rfl (by kernel_rfl) (fun _ _ _ h => h) (Or.inl ⟨by rfl, ?_⟩) hHeld ?_ ?_
          rotate_left
          · intro w' s0
            go_simp
            with_reducible rfl
          rotate_left
          · simp only [Act.put, List.setIfInBounds_toArray, List.set_cons_zero, List.set_cons_succ, i64_w, i32_w]
            rfl
          refine one_ (i := 4) (N := some 71) #[true, true, true, true, true, true, true, true, true, false] rfl rfl (by kernel_rfl) (by decide) (fun K hK => ?_)
          refine goes_ Tryd.func21 (by kernel_rfl) rfl #[.pointer (some ⟨B, 0, none⟩)] (by rfl) rfl rfl (by simp only [List.map_toArray, List.map_cons, List.map_nil]; rfl) ?_
          with_reducible refine (err_some HD9.out).mono ?_
          rintro e w3 ⟨rfl, rfl⟩
          refine ⟨_, rfl, ?_⟩
          refine hK.out _ _ ((World.cell?_alloc_lt _ _ _ (blk_lt_cell hHeld)).trans hHeld) (fun hHeld => ?_)
          clear hK K
          refine norm_ (a' := ?_) ?_ ?_
          rotate_left
          · show Act.put _ (some 71) _ = _
            simp only [Act.put, List.setIfInBounds_toArray, List.set_cons_zero, List.set_cons_succ, i64_w, i32_w]
            rfl
          refine last_ (i := 9) (N := some 76) #[true, true, true, true, true, true, true, true, true, true] rfl rfl (by kernel_rfl) (by decide) (fun K hK => ?_)
          refine goes_ Tryd.func15 (by kernel_rfl) rfl #[.iface 50 (.pointer (some ⟨W7.drew.heap.size, 0, none⟩)), .iface 58 (.pointer (some ⟨C, 2, none⟩))] (by rfl) rfl rfl (by simp only [List.map_toArray, List.map_cons, List.map_nil]; rfl) ?_
          with_reducible refine (HAS.out).mono ?_
          rintro e w4 ⟨rfl, hw4⟩
          refine ⟨_, rfl, ?_⟩
          refine hK.out _ _ ?_
          clear hK K
          refine norm_ (a' := ?_) ?_ ?_
          rotate_left
          · show Act.put _ (some 76) _ = _
            simp only [Act.put, List.setIfInBounds_toArray, List.set_cons_zero, List.set_cons_succ, i64_w, i32_w]
            rfl
          refine done_ (by kernel_rfl) ?_
          go_wp2
          go_meet
          case rel =>
            rw [hw4]
            exact ⟨HE.out _ ((((Below.refl _ _).alloc (Nat.le_refl _) _).alloc (by simp) _).alloc (by simp) _ |>.alloc (by simp) _)⟩
  case rest =>
    have HD9 := hcut
    have hb3 : Below w.heap.size w W3 := HBX.out.trans (HXW.out.mono HBX.out.size)
    have HB9 := Aside0.mk (HD9.out.fr.below hb3 (fun k e => by have := HBS.out; omega) hb3.size)
    have HG9 := Aside0.mk (HG3.out.fr HD9.out.fr (fun k hk e => by have := HBS.out; omega))
    clear hcut HD8 hb3
    cases hb : bd with
    | some q =>
      obtain ⟨qa, qc⟩ := q
      have hbad := HD9.out.bad
      rw [hb] at hbad
      obtain ⟨ev, x2, F, rfl, hF, hbF⟩ := hbad
      obtain ⟨W9, hW9⟩ : ∃ W : World, W = wc := ⟨_, rfl⟩
      subst hW9
      have f0 : W9.cell? ⟨F, 0, none⟩ = some (.int .i64 qa) := blk_cell hF 0
      have f1 : W9.cell? ⟨F, 1, none⟩ = some (.int .i64 qc) := blk_cell hF 1
      have HQ9 := Aside0.mk (show W9.drew.heap[w.heap.size]? = some (.cells noCells 43 (0, 0)) from HD9.out.q0)
      have HQA := Aside0.mk (show (W9.drew.alloc (.cells #[.int .i64 (wrap64 (qa + fr)), .int .i64 qc] 61)).heap[w.heap.size]? = some (.cells noCells 43 (0, 0)) from (heap_alloc_old W9.drew _ (blk_lt HQ9.out)).trans HQ9.out)
      have HNF := Aside0.mk (show F ≠ w.heap.size by have := HBS.out; omega)
      have HNC := Aside0.mk (show C ≠ w.heap.size by
        obtain ⟨cells, hc⟩ := HD9.out.cb
        intro e; rw [e, HD9.out.q0] at hc; injection hc with hc; injection hc with _ hc; exact absurd hc (by decide))
      have HE1 := Aside0.mk (DEnd.order1 (w0 := W9) (q0 := w.heap.size) (a := wrap64 (qa + fr)) (c := qc) HD9.out.q0)
      have HE2 := Aside0.mk (DEnd.order2 (w0 := W9) (q0 := w.heap.size) (a := wrap64 (qa + fr)) (c := qc) HD9.out.q0)
      have HBB := Aside0.mk hb
      clear hF hb
      go_upto_region 11 with fail
      refine start_ (n := 23) (S := fun w' => w'.cell? ⟨C, 2, none⟩ = some (.pointer (some ⟨F, 0, none⟩)) ∧ w'.cell? ⟨F, 0, none⟩ = some (.int .i64 qa) ∧ w'.cell? ⟨F, 1, none⟩ = some (.int .i64 qc)) (ds := []) #[false, false, false, false, false, false, false, false, false, false, false, false, false, false, false, false, false, false, false, false, false, false, false] (by kernel_rfl) rfl rfl ⟨x2, f0, f1⟩ (fun hHeld => ?_)
      refine pure_ (i := 0) (N := some 82) (v := ?_) (a' := ?_) #[true, false, false, false, false, false, false, false, false, false, false, false, false, false, false, false, false, false, false, false, false, false, false] rfl rfl (by kernel_rfl) (fun _ _ _ h => h) (Or.inl ⟨by rfl, ?_⟩) ?_ ?_
      rotate_left
      · intro w'
        go_simp
        with_reducible rfl
      rotate_left
      · simp only [Act.put, List.setIfInBounds_toArray, List.set_cons_zero, List.set_cons_succ, i64_w, i32_w]
        rfl
      refine pure_ (i := 1) (N := some 83) (v := ?_) (a' := ?_) #[true, true, false, false, false, false, false, false, false, false, false, false, false, false, false, false, false, false, false, false, false, false, false] rfl rfl (by kernel_rfl) (fun _ _ _ h => h) (Or.inl ⟨by rfl, ?_⟩) ?_ ?_
      rotate_left
      · intro w'
        go_simp
        with_reducible rfl
      rotate_left
      · simp only [Act.put, List.setIfInBounds_toArray, List.set_cons_zero, List.set_cons_succ, i64_w, i32_w]
        rfl
      refine pure_ (i := 2) (N := some 84) (v := ?_) (a' := ?_) #[true, true, true, false, false, false, false, false, false, false, false, false, false, false, false, false, false, false, false, false, false, false, false] rfl rfl (by kernel_rfl) (fun _ _ _ h => h) (Or.inl ⟨by rfl, ?_⟩) ?_ ?_
      rotate_left
      · intro w'
        go_simp
        with_reducible rfl
      rotate_left
      · simp only [Act.put, List.setIfInBounds_toArray, List.set_cons_zero, List.set_cons_succ, i64_w, i32_w]
        rfl
      refine pure_ (i := 3) (N := some 85) (v := ?_) (a' := ?_) #[true, true, true, true, false, false, false, false, false, false, false, false, false, false, false, false, false, false, false, false, false, false, false] rfl rfl (by kernel_rfl) (fun _ _ _ h => h) (Or.inl ⟨by rfl, ?_⟩) ?_ ?_
      rotate_left
      · intro w'
        go_simp
        with_reducible rfl
      rotate_left
      · simp only [Act.put, List.setIfInBounds_toArray, List.set_cons_zero, List.set_cons_succ, i64_w, i32_w]
        rfl
      refine pure_ (i := 8) (N := some 90) (v := ?_) (a' := ?_) #[true, true, true, true, false, false, false, false, true, false, false, false, false, false, false, false, false, false, false, false, false, false, false] rfl rfl (by kernel_rfl) (fun _ _ _ h => h) (Or.inl ⟨by rfl, ?_⟩) ?_ ?_
      rotate_left
      · intro w'
        go_simp
        with_reducible rfl
      rotate_left
      · simp only [Act.put, List.setIfInBounds_toArray, List.set_cons_zero, List.set_cons_succ, i64_w, i32_w]
        rfl
      refine pure_ (i := 10) (N := some 92) (v := ?_) (a' := ?_) #[true, true, true, true, false, false, false, false, true, false, true, false, false, false, false, false, false, false, false, false, false, false, false] rfl rfl (by kernel_rfl) (fun _ _ _ h => h) (Or.inl ⟨by rfl, ?_⟩) ?_ ?_
      rotate_left
      · intro w'
        go_simp
        with_reducible rfl
      rotate_left
      · simp only [Act.put, List.setIfInBounds_toArray, List.set_cons_zero, List.set_cons_succ, i64_w, i32_w]
        rfl
      refine pure_ (i := 11) (N := some 93) (v := ?_) (a' := ?_) #[true, true, true, true, false, false, false, false, true, false, true, true, false, false, false, false, false, false, false, false, false, false, false] rfl rfl (by kernel_rfl) (fun _ _ _ h => h) (Or.inl ⟨by rfl, ?_⟩) ?_ ?_
      rotate_left
      · intro w'
        go_simp
        with_reducible rfl
      rotate_left
      · simp only [Act.put, List.setIfInBounds_toArray, List.set_cons_zero, List.set_cons_succ, i64_w, i32_w]
        rfl
      refine pure_ (i := 12) (N := some 94) (v := ?_) (a' := ?_) #[true, true, true, true, false, false, false, false, true, false, true, true, true, false, false, false, false, false, false, false, false, false, false] rfl rfl (by kernel_rfl) (fun _ _ _ h => h) (Or.inl ⟨by rfl, ?_⟩) ?_ ?_
      rotate_left
      · intro w'
        go_simp
        with_reducible rfl
      rotate_left
      · simp only [Act.put, List.setIfInBounds_toArray, List.set_cons_zero, List.set_cons_succ, i64_w, i32_w]
        rfl
      refine take_ (i := 4) (N := some 86) (v := ?_) (a' := ?_) #[true, true, true, true, true, false, false, false, true, false, true, true, true, false, false, false, false, false, false, false, false, false, false] rfl rfl (by kernel_rfl) (fun _ _ _ h => h) (Or.inl ⟨by rfl, ?_⟩) hHeld ?_ ?_
      rotate_left
      · rintro w' ⟨s0, s1, s2⟩
        go_simp
        with_reducible rfl
      rotate_left
      · simp only [Act.put, List.setIfInBounds_toArray, List.set_cons_zero, List.set_cons_succ, i64_w, i32_w]
        rfl
      refine pure_ (i := 5) (N := some 87) (v := ?_) (a' := ?_) #[true, true, true, true, true, true, false, false, true, false, true, true, true, false, false, false, false, false, false, false, false, false, false] rfl rfl (by kernel_rfl) (fun _ _ _ h => h) (Or.inl ⟨by rfl, ?_⟩) ?_ ?_
      rotate_left
      · intro w'
        go_simp
        with_reducible rfl
      rotate_left
      · simp only [Act.put, List.setIfInBounds_toArray, List.set_cons_zero, List.set_cons_succ, i64_w, i32_w]
        rfl
      refine pure_ (i := 6) (N := some 88) (v := ?_) (a' := ?_) #[true, true, true, true, true, true, true, false, true, false, true, true, true, false, false, false, false, false, false, false, false, false, false] rfl rfl (by kernel_rfl) (fun _ _ _ h => h) (Or.inl ⟨by rfl, ?_⟩) ?_ ?_
      rotate_left
      · intro w'
        go_simp
        with_reducible rfl
      rotate_left
      · simp only [Act.put, List.setIfInBounds_toArray, List.set_cons_zero, List.set_cons_succ, i64_w, i32_w]
        rfl
      refine take_ (i := 7) (N := some 89) (v := ?_) (a' := ?_) #[true, true, true, true, true, true, true, true, true, false, true, true, true, false, false, false, false, false, false, false, false, false, false] rfl rfl (by kernel_rfl) (fun _ _ _ h => h) (Or.inl ⟨by rfl, ?_⟩) hHeld ?_ ?_
      rotate_left
      · rintro w' ⟨s0, s1, s2⟩
        go_simp
        with_reducible rfl
      rotate_left
      · simp only [Act.put, List.setIfInBounds_toArray, List.set_cons_zero, List.set_cons_succ, i64_w, i32_w]
        rfl
      refine pure_ (i := 9) (N := some 91) (v := ?_) (a' := ?_) #[true, true, true, true, true, true, true, true, true, true, true, true, true, false, false, false, false, false, false, false, false, false, false] rfl rfl (by kernel_rfl) (fun _ _ _ h => h) (Or.inl ⟨by rfl, ?_⟩) ?_ ?_
      rotate_left
      · intro w'
        go_simp
        with_reducible rfl
      rotate_left
      · simp only [Act.put, List.setIfInBounds_toArray, List.set_cons_zero, List.set_cons_succ, i64_w, i32_w]
        rfl
      refine take_ (i := 13) (N := some 95) (v := ?_) (a' := ?_) #[true, true, true, true, true, true, true, true, true, true, true, true, true, true, false, false, false, false, false, false, false, false, false] rfl rfl (by kernel_rfl) (fun _ _ _ h => h) (Or.inl ⟨by rfl, ?_⟩) hHeld ?_ ?_
      rotate_left
      · rintro w' ⟨s0, s1, s2⟩
        go_simp
        with_reducible rfl
      rotate_left
      · simp only [Act.put, List.setIfInBounds_toArray, List.set_cons_zero, List.set_cons_succ, i64_w, i32_w]
        rfl
      refine pure_ (i := 14) (N := some 96) (v := ?_) (a' := ?_) #[true, true, true, true, true, true, true, true, true, true, true, true, true, true, true, false, false, false, false, false, false, false, false] rfl rfl (by kernel_rfl) (fun _ _ _ h => h) (Or.inl ⟨by rfl, ?_⟩) ?_ ?_
      rotate_left
      · intro w'
        go_simp
        with_reducible rfl
      rotate_left
      · simp only [Act.put, List.setIfInBounds_toArray, List.set_cons_zero, List.set_cons_succ, i64_w, i32_w]
        rfl
      refine pure_ (i := 15) (N := some 97) (v := ?_) (a' := ?_) #[true, true, true, true, true, true, true, true, true, true, true, true, true, true, true, true, false, false, false, false, false, false, false] rfl rfl (by kernel_rfl) (fun _ _ _ h => h) (Or.inl ⟨by rfl, ?_⟩) ?_ ?_
      rotate_left
      · intro w'
        go_simp
        with_reducible rfl
      rotate_left
      · simp only [Act.put, List.setIfInBounds_toArray, List.set_cons_zero, List.set_cons_succ, i64_w, i32_w]
        rfl
      refine take_ (i := 16) (N := some 98) (v := ?_) (a' := ?_) #[true, true, true, true, true, true, true, true, true, true, true, true, true, true, true, true, true, false, false, false, false, false, false] rfl rfl (by kernel_rfl) (fun _ _ _ h => h) (Or.inl ⟨by rfl, ?_⟩) hHeld ?_ ?_
      rotate_left
      · rintro w' ⟨s0, s1, s2⟩
        go_simp
        with_reducible rfl
      rotate_left
      · simp only [Act.put, List.setIfInBounds_toArray, List.set_cons_zero, List.set_cons_succ, i64_w, i32_w]
        rfl
      refine pure_ (i := 17) (N := some 99) (v := ?_) (a' := ?_) #[true, true, true, true, true, true, true, true, true, true, true, true, true, true, true, true, true, true, false, false, false, false, false] rfl rfl (by kernel_rfl) (fun _ _ _ h => h) (Or.inl ⟨by rfl, ?_⟩) ?_ ?_
      rotate_left
      · intro w'
        go_simp
        with_reducible rfl
      rotate_left
      · simp only [Act.put, List.setIfInBounds_toArray, List.set_cons_zero, List.set_cons_succ, i64_w, i32_w]
        rfl
      refine join_ (σ := Nat) 1 #[true, true, true, true, true, true, true, true, true, true, true, true, true, true, true, true, true, true, true, true, true, true, false] (fun s => [(100, .pointer (some ⟨s, 0, none⟩)), (101, .iface 50 (.pointer (some ⟨s, 0, none⟩))), (5, .int .i64 0)]) (fun s w' => DEnd W9 w.heap.size (wrap64 (qa + fr)) qc s w') ?_ ?_
      rotate_left
      · intro hCont
        refine two_ (i := 18) (j := 20) (Ni := some 100) (Nj := none) #[true, true, true, true, true, true, true, true, true, true, true, true, true, true, true, true, true, true, true, false, false, false, false] #[true, true, true, true, true, true, true, true, true, true, true, true, true, true, true, true, true, true, false, false, true, false, false] rfl rfl rfl rfl (by kernel_rfl) (by decide) (by decide) (fun K hK => ?_) (fun K hK => ?_)
        · skip
          refine value_ (w1 := ?_) (v := ?_) (by rfl) rfl ?_ ?_
          rotate_left 2
          · go_simp
            constructor
            · rfl
            · rfl
          refine hK.out _ _ ⟨(World.cell?_alloc_lt _ _ _ (blk_lt_cell hHeld.1)).trans hHeld.1, (World.cell?_alloc_lt _ _ _ (blk_lt_cell hHeld.2.1)).trans hHeld.2.1, (World.cell?_alloc_lt _ _ _ (blk_lt_cell hHeld.2.2)).trans hHeld.2.2⟩ (fun hHeld => ?_)
          clear hK K
          refine norm_ (a' := ?_) ?_ ?_
          rotate_left
          · show Act.put _ (some 100) _ = _
            simp only [Act.put, List.setIfInBounds_toArray, List.set_cons_zero, List.set_cons_succ, i64_w, i32_w]
            rfl
          refine pure_ (i := 19) (N := some 101) (v := ?_) (a' := ?_) #[true, true, true, true, true, true, true, true, true, true, true, true, true, true, true, true, true, true, true, true, false, false, false] rfl rfl (by kernel_rfl) (fun _ _ _ h => h) (Or.inl ⟨by rfl, ?_⟩) ?_ ?_
          rotate_left
          · intro w'
            go_simp
            with_reducible rfl
          rotate_left
          · simp only [Act.put, List.setIfInBounds_toArray, List.set_cons_zero, List.set_cons_succ, i64_w, i32_w]
            rfl
          refine one_ (i := 20) (N := none) #[true, true, true, true, true, true, true, true, true, true, true, true, true, true, true, true, true, true, true, true, true, false, false] rfl rfl (by kernel_rfl) (by decide) (fun K hK => ?_)
          refine skip_ (w1 := (W9.drew.alloc (.cells #[.int .i64 (wrap64 (qa + fr)), .int .i64 qc] 61)).setRow w.heap.size noCells) (by rfl) rfl (exec_store_row (ty := 43) (x := .tmp 4) (y := .tmp 82) (cells := noCells) rfl rfl rfl HQA.out pktSize rfl noOne) ?_
          refine hK.out _ _ ⟨(setRow_cell HNC.out hHeld.1), (setRow_cell HNF.out hHeld.2.1), (setRow_cell HNF.out hHeld.2.2)⟩ (fun hHeld => ?_)
          clear hK K
          refine pure_ (i := 21) (N := some 5) (v := ?_) (a' := ?_) #[true, true, true, true, true, true, true, true, true, true, true, true, true, true, true, true, true, true, true, true, true, true, false] rfl rfl (by kernel_rfl) (fun _ _ _ h => h) (Or.inl ⟨by rfl, ?_⟩) ?_ ?_
          rotate_left
          · intro w'
            go_simp
            with_reducible rfl
          rotate_left
          · simp only [Act.put, List.setIfInBounds_toArray, List.set_cons_zero, List.set_cons_succ, i64_w, i32_w]
            rfl
          exact norm_ (by simp only [putAll, Act.put, List.setIfInBounds_toArray, List.set_cons_zero, List.set_cons_succ]) (hCont W9.heap.size _ HE1.out)
        · skip
          refine skip_ (w1 := W9.drew.setRow w.heap.size noCells) (by rfl) rfl (exec_store_row (ty := 43) (x := .tmp 4) (y := .tmp 82) (cells := noCells) rfl rfl rfl HQ9.out pktSize rfl noOne) ?_
          refine hK.out _ _ ⟨(setRow_cell HNC.out hHeld.1), (setRow_cell HNF.out hHeld.2.1), (setRow_cell HNF.out hHeld.2.2)⟩ (fun hHeld => ?_)
          clear hK K
          refine pure_ (i := 21) (N := some 5) (v := ?_) (a' := ?_) #[true, true, true, true, true, true, true, true, true, true, true, true, true, true, true, true, true, true, false, false, true, true, false] rfl rfl (by kernel_rfl) (fun _ _ _ h => h) (Or.inl ⟨by rfl, ?_⟩) ?_ ?_
          rotate_left
          · intro w'
            go_simp
            with_reducible rfl
          rotate_left
          · simp only [Act.put, List.setIfInBounds_toArray, List.set_cons_zero, List.set_cons_succ, i64_w, i32_w]
            rfl
          refine one_ (i := 18) (N := some 100) #[true, true, true, true, true, true, true, true, true, true, true, true, true, true, true, true, true, true, true, false, true, true, false] rfl rfl (by kernel_rfl) (by decide) (fun K hK => ?_)
          refine value_ (w1 := ?_) (v := ?_) (by rfl) rfl ?_ ?_
          rotate_left 2
          · go_simp
            constructor
            · rfl
            · rfl
          refine hK.out _ _ ⟨(World.cell?_alloc_lt _ _ _ (blk_lt_cell hHeld.1)).trans hHeld.1, (World.cell?_alloc_lt _ _ _ (blk_lt_cell hHeld.2.1)).trans hHeld.2.1, (World.cell?_alloc_lt _ _ _ (blk_lt_cell hHeld.2.2)).trans hHeld.2.2⟩ (fun hHeld => ?_)
          clear hK K
          refine norm_ (a' := ?_) ?_ ?_
          rotate_left
          · show Act.put _ (some 100) _ = _
            simp only [Act.put, List.setIfInBounds_toArray, List.set_cons_zero, List.set_cons_succ, i64_w, i32_w]
            rfl
          refine pure_ (i := 19) (N := some 101) (v := ?_) (a' := ?_) #[true, true, true, true, true, true, true, true, true, true, true, true, true, true, true, true, true, true, true, true, true, true, false] rfl rfl (by kernel_rfl) (fun _ _ _ h => h) (Or.inl ⟨by rfl, ?_⟩) ?_ ?_
          rotate_left
          · intro w'
            go_simp
            with_reducible rfl
          rotate_left
          · simp only [Act.put, List.setIfInBounds_toArray, List.set_cons_zero, List.set_cons_succ, i64_w, i32_w]
            rfl
          exact norm_ (by simp only [putAll, Act.put, List.setIfInBounds_toArray, List.set_cons_zero, List.set_cons_succ]) (hCont W9.heap.size _ HE2.out)
      rintro sF w11 hE
      have HE := Aside0.mk hE
      refine norm_ (a' := ?_) ?_ ?_
      rotate_left
      · simp only [putAll, Act.put, List.setIfInBounds_toArray, List.set_cons_zero, List.set_cons_succ]
        rfl
      refine pure_ (i := 22) (N := some 6) (v := ?_) (a' := ?_) #[true, true, true, true, true, true, true, true, true, true, true, true, true, true, true, true, true, true, true, true, true, true, true] rfl rfl (by kernel_rfl) (fun _ _ _ h => h) (Or.inl ⟨by rfl, ?_⟩) ?_ ?_
      rotate_left
      · intro w'
        go_simp
        with_reducible rfl
      rotate_left
      · simp only [Act.put, List.setIfInBounds_toArray, List.set_cons_zero, List.set_cons_succ, i64_w, i32_w]
        rfl
      refine done_ (by kernel_rfl) ?_
      go_wp2
      have hres : res = ⟨noPkt, 0, some (wrap64 (qa + fr), qc)⟩ := by rw [HRES.out, ← HBD.out, HBB.out]
      rw [hres]
      refine bodyPost_ret (results_dec Tryd.results14 rfl HE.out.qz Tryd.underlying43 rfl pktSize) rfl ⟨noCells.toList, _, rfl, noM _ _, ⟨sF, rfl, HE.out.flt, Nat.le_trans HB9.out.size HE.out.ge⟩, HE.out.fr.below HB9.out (fun k e => by omega) HB9.out.size⟩
    | none =>
      have hbad := HD9.out.bad
      rw [hb] at hbad
      obtain ⟨ev, x2, hev⟩ := hbad
      have hev : ev = .pointer none := hev
      subst hev
      obtain ⟨cs2, hP, hM⟩ := HD9.out.ex
      have HP := Aside0.mk hP
      have HMM := Aside0.mk hM
      have hsz25 : cs2.toArray.size = 25 := by rw [List.size_toArray, kPkt.K_len (kPkt.K_of_M hM)]; rfl
      have HSZ := Aside0.mk (show (Tryd.prog.info? 43).map (·.size) = some cs2.toArray.size by rw [hsz25]; exact pktSize)
      have HS2 := Aside0.mk (show noCells.size = cs2.toArray.size by rw [hsz25]; rfl)
      have HONE := Aside0.mk (show cs2.toArray.all (·.oneCell') = true by
        rw [Array.all_eq_true_iff_forall_mem]
        intro u hu
        exact kPkt.K_one (kPkt.K_of_M hM) u (by simpa using hu))
      obtain ⟨ck, hck⟩ : ∃ ck, ck = pchk r.p := ⟨_, rfl⟩
      have hfl := fFields_len l2 (b0 / 16) (b0 % 16)
      rw [← HRR.out] at hfl
      have HCK := Aside0.mk (show Calls Tryd.prog 22 #[.agg cs2.toArray] wc fun e w' => e = .returned (.int .i64 ck) ∧ Below wc.heap.size wc w' by
        rw [hck]; have := HLL.out; exact pcheck_any HG9.out r.p cs2 (kPkt.K_of_M hM) (by omega) (by omega) (by omega))
      have HRES2 := Aside0.mk (show res = if ck = 0 then ⟨r.p, fr + n, none⟩ else ⟨noPkt, 0, some (0, ck)⟩ by rw [HRES.out, ← HBD.out, hb, hck])
      have HLT := Aside0.mk (show P < wc.heap.size ∧ w.heap.size < wc.heap.size from ⟨blk_lt hP, blk_lt HD9.out.q0⟩)
      clear hP hM hsz25 hck hfl hb
      obtain ⟨z, hz⟩ : ∃ z : Bool, (ck != 0) = z := ⟨_, rfl⟩
      go_upto_if 105 with (first
        | (refine wpList_load_row rfl 43 _ rfl P rfl 43 _ (0, 0) _ HP.out Tryd.underlying43 rfl HSZ.out ?_)
        | (go_at_call 22; (with_reducible refine (HCK.out).mono ?_); rintro e w10 ⟨rfl, hB⟩; have HB10 := Aside0.mk hB; have HP10 := Aside0.mk ((hB.block P HLT.out.1).trans HP.out); have HQ10 := Aside0.mk ((hB.block _ HLT.out.2).trans HD9.out.q0); clear hB))
      have HBT := Aside0.mk (HB9.out.trans (HB10.out.mono HB9.out.size))
      cases z with
      | true =>
        have hne : ck ≠ 0 := by simpa using hz
        have HRES3 := Aside0.mk (HRES2.out.trans (if_neg hne))
        go_wp2_with (refine wpList_store_row rfl 43 _ _ rfl w.heap.size _ rfl rfl 43 _ ((heap_alloc_old w10 _ (blk_lt HQ10.out)).trans HQ10.out) pktSize rfl (by simp [Value.oneCell']) ?_)
        rw [HRES3.out]
        refine bodyPost_ret (results_dec Tryd.results14 rfl (setRow_block ((heap_alloc_old w10 _ (blk_lt HQ10.out)).trans HQ10.out)) Tryd.underlying43 rfl pktSize) rfl ⟨noCells.toList, _, rfl, noM _ _, ⟨w10.heap.size, rfl, (setRow_far (by have := blk_lt HQ10.out; omega) _).trans (heap_alloc_new _ _), HBT.out.size⟩, setRow_below (HBT.out.alloc HBT.out.size _) (Nat.le_refl _) _⟩
      | false =>
        have he0 : ck = 0 := by simpa using hz
        have HRES3 := Aside0.mk (HRES2.out.trans (if_pos he0))
        have HM10 := Aside0.mk (M_frT (Kd.M_below HMM.out HB10.out) (setRow_fr w10 w.heap.size cs2.toArray) (fun k hk e => ⟨_, _, e ▸ HQ10.out, by decide⟩))
        go_wp2_with (first
          | (refine wpList_load_row rfl 43 _ rfl P rfl 43 _ (0, 0) _ HP10.out Tryd.underlying43 rfl HSZ.out ?_)
          | (refine wpList_store_row rfl 43 _ _ rfl w.heap.size _ rfl rfl 43 _ HQ10.out HSZ.out HS2.out HONE.out ?_))
        rw [HRES3.out]
        refine bodyPost_ret (results_dec Tryd.results14 rfl (setRow_block HQ10.out) Tryd.underlying43 rfl HSZ.out) rfl ⟨cs2, _, rfl, kPkt.M_lower (by have := HBS.out; omega) HM10.out, rfl, setRow_below HBT.out (Nat.le_refl _) _⟩
theorem decode_any {w : World} (hg : Gl w) (l : List Int) (most : Int) (A : Option Addr) (c : Nat) (hlc : l.length ≤ c) (hr : (Kd.int .u8).C w A l.length l) (hb : ∀ x ∈ l, 0 ≤ x ∧ x ≤ 255) (hll : l.length ≤ 1099511627770) :
    Calls Tryd.prog 14 #[.slice A l.length c, .int .i64 most] w fun e w' => DecAt w w' e (decP l most) := by
  have hw : ∀ i, 0 ≤ rd l i ∧ rd l i ≤ 255 := fun i => rd_range l hb i
  cases hf : (headP l (topP most)).2.2 with
  | some q =>
    have e : decP l most = ⟨noPkt, 0, some q⟩ := by unfold decP decF; rw [hf]; rfl
    rw [e]; exact dec_fault hg l most A c hr hb q hf
  | none =>
    have hrange : 0 ≤ (headP l (topP most)).1 ∧ (headP l (topP most)).1 ≤ 5 := by
      by_cases h0 : (headP l (topP most)).1 = 0
      · omega
      · have := headP_ok l (topP most) hw h0; omega
    by_cases hn : (headP l (topP most)).1 = 0 ∨ (l.length : Int) - (headP l (topP most)).1 < (headP l (topP most)).2.1
    · have e : decP l most = ⟨noPkt, 0, none⟩ := by unfold decP decF; rw [hf, if_neg (by simp), if_pos hn]
      rw [e]; exact dec_need hg l most A c hr hb hf hn hrange (by omega)
    · have hok := headP_ok l (topP most) hw (fun e => hn (.inl e))
      obtain ⟨ad, rfl, _⟩ := Kd.at_int hr 0 (by decide) (by omega)
      have hh : headP l (topP most) = ((headP l (topP most)).1, (headP l (topP most)).2.1, none) := by rw [← hf]
      refine dec_go hg l most ad c hlc hr hb _ _ hh (by omega) (by omega) (by omega) (by omega) (by omega) (by omega) hll _ rfl _ rfl _ ?_
      unfold decP decF
      rw [hf, if_neg (by simp), if_neg hn]
      all_goals dsimp only
      all_goals generalize fFields ((l.drop (headP l (topP most)).1.toNat).take (headP l (topP most)).2.1.toNat) (rd l 0 / 16) (rd l 0 % 16) = r
      all_goals (cases r.bad.or r.f <;> rfl)
end Go.Proofs.YthlbcgaegaoanaaDoor.Cr

namespace Go.Proofs.YthlbcgaegaoanaaDoor.Cr
open Go Go.RowKit Go.Proofs.YthlbcgaegaoanaaDoorW.PrintWords Go.Proofs.YthlbcgaegaoanaaDoorW.PrintLast Go.Proofs.YthlbcgaegaoanaaDoorW.PrintMore Go.Proofs.YthlbcgaegaoanaaDoor.Kinds Go.Proofs.YthlbcgaegaoanaaDoor.Utf Go.Proofs.YthlbcgaegaoanaaDoor.Chk Go.Proofs.YthlbcgaegaoanaaDoor.Rdr
set_option linter.unusedVariables false
set_option linter.unusedSimpArgs false
structure FrS where
  b : List Int
  spent : Int
  err : Option (Int × Int)
def FrS.new : FrS := ⟨[], 0, none⟩
def FrS.put (s : FrS) (l : List Int) : FrS := if s.err.isSome then s else ⟨s.b ++ l, s.spent, none⟩
structure FA where
  p : Pkt
  ok : Bool
  f : Option (Int × Int)
def nextF (s : FrS) (r : DR) : FA × FrS :=
  match r.f with
  | some e => (⟨noPkt, false, some (wrap64 (e.1 + s.spent), e.2)⟩, ⟨[], s.spent, some (wrap64 (e.1 + s.spent), e.2)⟩)
  | none => if r.n = 0 then (⟨noPkt, false, none⟩, s) else (⟨r.p, true, none⟩, ⟨s.b.drop r.n.toNat, wrap64 (s.spent + r.n), none⟩)
def FrS.next (most : Int) (s : FrS) : FA × FrS :=
  match s.err with
  | some e => (⟨noPkt, false, some e⟩, s)
  | none => nextF s (decP s.b most)
def Bytes (l : List Int) : Prop := ∀ x ∈ l, 0 ≤ x ∧ x ≤ 255
theorem Bytes.at_ {l : List Int} (h : Bytes l) (i : Int) : 0 ≤ rd l i ∧ rd l i ≤ 255 := by
  unfold rd
  rw [List.getD_eq_getElem?_getD]
  cases e : l[i.toNat]? with
  | none => simp
  | some x => exact h x (List.mem_of_getElem? e)
theorem Bytes.app {l m : List Int} (h : Bytes l) (h2 : Bytes m) : Bytes (l ++ m) := fun x hx => (List.mem_append.1 hx).elim (h x) (h2 x)
theorem Bytes.drop {l : List Int} (h : Bytes l) (k : Nat) : Bytes (l.drop k) := fun x hx => h x (List.mem_of_mem_drop hx)
structure FrS.Ok (s : FrS) : Prop where
  byte : Bytes s.b
  err : s.err.isSome → s.b = []
theorem FrS.Ok.new : FrS.new.Ok := ⟨by simp [FrS.new, Bytes], by simp [FrS.new]⟩
theorem FrS.Ok.put {s : FrS} (h : s.Ok) {l : List Int} (hl : Bytes l) : (s.put l).Ok := by
  unfold FrS.put
  split
  · exact h
  · exact ⟨h.byte.app hl, by simp⟩
theorem FrS.put_nil {s : FrS} : s.put [] = s := by
  unfold FrS.put
  split
  · rfl
  · rename_i h
    cases s with
    | mk b sp e => cases e with
      | none => simp
      | some e => simp at h
theorem FrS.put_put (s : FrS) (l m : List Int) : (s.put l).put m = s.put (l ++ m) := by
  unfold FrS.put
  cases e : s.err with
  | some x => simp [e]
  | none => simp
theorem FrS.next_err {s : FrS} {e : Int × Int} (most : Int) (h : s.err = some e) : s.next most = (⟨noPkt, false, some e⟩, s) := by unfold FrS.next; rw [h]
theorem FrS.next_none {s : FrS} (most : Int) (h : s.err = none) : s.next most = nextF s (decP s.b most) := by unfold FrS.next; rw [h]
theorem FrS.Ok.next {s : FrS} (h : s.Ok) (most : Int) : (s.next most).2.Ok := by
  cases e : s.err with
  | some x => rw [FrS.next_err most e]; exact h
  | none =>
    rw [FrS.next_none most e]
    unfold nextF
    split
    · exact ⟨by simp [Bytes], by simp⟩
    · split
      · exact h
      · exact ⟨h.byte.drop _, by simp⟩
theorem FrS.next_ok {s : FrS} (h : s.Ok) (most : Int) (hk : (s.next most).1.ok = true) (m : List Int) :
    (s.next most).1.f = none ∧ pchk (s.next most).1.p = 0 ∧ s.err = none ∧ (s.next most).2.err = none ∧ (s.next most).2.b.length + 2 ≤ s.b.length ∧ (s.put m).next most = ((s.next most).1, (s.next most).2.put m) := by
  cases e : s.err with
  | some x => rw [FrS.next_err most e] at hk; simp at hk
  | none =>
    have hw : ∀ i, 0 ≤ rd s.b i ∧ rd s.b i ≤ 255 := fun i => h.byte.at_ i
    have e2 : (s.put m).err = none := by unfold FrS.put; rw [e]; rfl
    have e3 : (s.put m).b = s.b ++ m := by unfold FrS.put; rw [e]; rfl
    have e4 : (s.put m).spent = s.spent := by unfold FrS.put; rw [e]; rfl
    rw [FrS.next_none most e] at hk ⊢
    rw [FrS.next_none most e2, e3]
    unfold nextF at hk ⊢
    cases ef : (decP s.b most).f with
    | some x => rw [ef] at hk; simp at hk
    | none =>
      rw [ef] at hk
      by_cases hn : (decP s.b most).n = 0
      · simp only [hn] at hk; simp at hk
      · have hd := decP_took s.b most hw hn
        rw [decP_app s.b m most hw (fun x => hn x.1), ef]
        simp only [if_neg hn, e4]
        refine ⟨trivial, hd.2.2.2, trivial, trivial, ?_, ?_⟩
        · rw [List.length_drop]; omega
        · rw [e3, List.drop_append_of_le_length (by omega)]
          unfold FrS.put
          simp
theorem FrS.next_bad {s : FrS} (h : s.Ok) (most : Int) (hk : (s.next most).1.ok = false) {e : Int × Int} (hf : (s.next most).1.f = some e) (m : List Int) :
    (s.next most).1.p = noPkt ∧ (s.next most).2 = ⟨[], s.spent, some e⟩ ∧ (s.put m).next most = s.next most ∧ (s.next most).2.put m = (s.next most).2 := by
  cases e1 : s.err with
  | some x =>
    have e2 : s.put m = s := by unfold FrS.put; rw [e1]; rfl
    rw [FrS.next_err most e1] at hf ⊢
    have hb := h.err (by rw [e1]; rfl)
    have hx : x = e := by simpa using hf
    subst hx
    refine ⟨rfl, ?_, ?_, e2⟩
    · cases s; simp_all
    · rw [e2, FrS.next_err most e1]
  | none =>
    have hw : ∀ i, 0 ≤ rd s.b i ∧ rd s.b i ≤ 255 := fun i => h.byte.at_ i
    have e2 : (s.put m).err = none := by unfold FrS.put; rw [e1]; rfl
    have e3 : (s.put m).b = s.b ++ m := by unfold FrS.put; rw [e1]; rfl
    have e4 : (s.put m).spent = s.spent := by unfold FrS.put; rw [e1]; rfl
    rw [FrS.next_none most e1] at hk hf ⊢
    rw [FrS.next_none most e2, e3]
    unfold nextF at hk hf ⊢
    cases ef : (decP s.b most).f with
    | some x =>
      rw [decP_app s.b m most hw (fun y => by rw [y.2] at ef; exact absurd ef (by simp)), ef, e4]
      rw [ef] at hf
      have hx : (wrap64 (x.1 + s.spent), x.2) = e := by simpa using hf
      subst hx
      exact ⟨rfl, rfl, rfl, rfl⟩
    | none =>
      rw [ef] at hf
      by_cases hn : (decP s.b most).n = 0
      · simp only [hn] at hf; simp at hf
      · simp only [if_neg hn] at hf; simp at hf
theorem FrS.next_need {s : FrS} (h : s.Ok) (most : Int) (hk : (s.next most).1.ok = false) (hf : (s.next most).1.f = none) :
    (s.next most) = (⟨noPkt, false, none⟩, s) ∧ s.err = none ∧ (s.b.length : Int) ≤ topP most + 4 := by
  cases e1 : s.err with
  | some x => rw [FrS.next_err most e1] at hf; simp at hf
  | none =>
    have hw : ∀ i, 0 ≤ rd s.b i ∧ rd s.b i ≤ 255 := fun i => h.byte.at_ i
    rw [FrS.next_none most e1] at hk hf ⊢
    unfold nextF at hk hf ⊢
    cases ef : (decP s.b most).f with
    | some x => rw [ef] at hf; simp at hf
    | none =>
      rw [ef] at hk
      by_cases hn : (decP s.b most).n = 0
      · simp only [if_pos hn]
        have := decP_need s.b most hw ⟨hn, ef⟩
        exact ⟨trivial, trivial, by omega⟩
      · simp only [if_neg hn] at hk; simp at hk
def FrS.drain (most : Int) : Nat → FrS → List Pkt × FA × FrS
  | 0, s => ([], (s.next most).1, (s.next most).2)
  | k + 1, s => if (s.next most).1.ok then ((s.next most).1.p :: (FrS.drain most k (s.next most).2).1, (FrS.drain most k (s.next most).2).2) else ([], (s.next most).1, (s.next most).2)
theorem FrS.drain_fuel (most : Int) : ∀ k j (s : FrS), s.Ok → s.b.length ≤ k → s.b.length ≤ j → s.drain most k = s.drain most j := by
  intro k
  induction k with
  | zero =>
    intro j s h h1 h2
    have hn : (s.next most).1.ok = false := by
      cases e : (s.next most).1.ok with
      | false => rfl
      | true => have := (s.next_ok h most e []).2.2.2.2.1; omega
    cases j with
    | zero => rfl
    | succ j => simp [FrS.drain, hn]
  | succ k ih =>
    intro j s h h1 h2
    cases e : (s.next most).1.ok with
    | false =>
      cases j with
      | zero => simp [FrS.drain, e]
      | succ j => simp [FrS.drain, e]
    | true =>
      have hs := (s.next_ok h most e []).2.2.2.2.1
      cases j with
      | zero => omega
      | succ j =>
        simp only [FrS.drain, e, if_true]
        rw [ih j _ (h.next most) (by omega) (by omega)]
def FrS.all (most : Int) (s : FrS) : List Pkt × FA × FrS := s.drain most s.b.length
theorem FrS.all_ok {most : Int} {s : FrS} (h : s.Ok) (hk : (s.next most).1.ok = true) : s.all most = ((s.next most).1.p :: ((s.next most).2.all most).1, ((s.next most).2.all most).2) := by
  have hs := (s.next_ok h most hk []).2.2.2.2.1
  obtain ⟨k, e⟩ : ∃ k, s.b.length = k + 1 := ⟨s.b.length - 1, by omega⟩
  unfold FrS.all
  rw [e]
  simp only [FrS.drain, hk, if_true]
  rw [FrS.drain_fuel most k _ _ (h.next most) (by omega) (Nat.le_refl _)]
theorem FrS.all_no {most : Int} {s : FrS} (hk : (s.next most).1.ok = false) : s.all most = ([], (s.next most).1, (s.next most).2) := by
  unfold FrS.all
  cases s.b.length with
  | zero => rfl
  | succ k => simp [FrS.drain, hk]
theorem FrS.all_put {most : Int} {s : FrS} (h : s.Ok) {m : List Int} (hm : Bytes m) (hk : (s.next most).1.ok = true) : (s.put m).all most = ((s.next most).1.p :: (((s.next most).2.put m).all most).1, (((s.next most).2.put m).all most).2) := by
  have hs := (s.next_ok h most hk m).2.2.2.2.2
  have h2 : ((s.put m).next most).1.ok = true := by rw [hs]; exact hk
  rw [FrS.all_ok (h.put hm) h2, hs]
theorem FrS.all_put_no {most : Int} {s : FrS} (h : s.Ok) {m : List Int} (hk : (s.next most).1.ok = false) : (s.put m).all most = ((s.next most).2.put m).all most := by
  cases hf : (s.next most).1.f with
  | none => rw [(s.next_need h most hk hf).1]
  | some e =>
    have hb := s.next_bad h most hk hf m
    have h2 : ((s.put m).next most).1.ok = false := by rw [hb.2.2.1]; exact hk
    rw [FrS.all_no h2, hb.2.2.1, hb.2.2.2]
    have h3 : ((s.next most).2).err = some e := by rw [hb.2.1]
    have h4 := FrS.next_err most h3
    rw [FrS.all_no (by rw [h4]), h4]
    have : (s.next most).1 = ⟨noPkt, false, some e⟩ := by
      cases hh : (s.next most).1 with
      | mk p k f => rw [hh] at hb hk hf; simp only [] at hk hf; simp only [hk, hf]; rw [show p = noPkt from hb.1]
    rw [this]
structure HS where
  l : List Pkt
  last : Option (Int × Int)
def hearK (most : Int) : Nat → FrS → HS → HS × FrS
  | 0, s, h => (h, s)
  | k + 1, s, h => if (s.next most).1.ok then hearK most k (s.next most).2 ⟨h.l ++ [(s.next most).1.p], (s.next most).1.f⟩ else (⟨h.l, (s.next most).1.f⟩, (s.next most).2)
theorem hearK_full (most : Int) : ∀ (k : Nat) (s : FrS) (h : HS), s.Ok → s.b.length < k → hearK most k s h = (⟨h.l ++ (s.all most).1, (s.all most).2.1.f⟩, (s.all most).2.2) := by
  intro k
  induction k with
  | zero => intro s h _ hk; omega
  | succ k ih =>
    intro s h hs hk
    simp only [hearK]
    cases e : (s.next most).1.ok with
    | false => rw [FrS.all_no e]; simp
    | true =>
      have := (s.next_ok hs most e []).2.2.2.2.1
      rw [FrS.all_ok hs e, if_pos rfl, ih _ _ (hs.next most) (by omega)]
      simp
structure Cut (most : Int) (F : List Pkt × FA × FrS) (rest : List Int) (s : FrS) (h : HS) : Prop where
  ok : s.Ok
  l : h.l ++ ((s.put rest).all most).1 = F.1
  e : ((s.put rest).all most).2 = F.2
theorem Cut.hear {most : Int} {F : List Pkt × FA × FrS} {rest : List Int} (hr : Bytes rest) : ∀ (k : Nat) {s : FrS} {h : HS}, Cut most F rest s h → Cut most F rest (hearK most k s h).2 (hearK most k s h).1 := by
  intro k
  induction k with
  | zero => intro s h c; exact c
  | succ k ih =>
    intro s h c
    simp only [hearK]
    cases e : (s.next most).1.ok with
    | false =>
      rw [if_neg (by simp)]
      have := FrS.all_put_no (most := most) c.ok (m := rest) e
      exact ⟨c.ok.next most, by rw [← this]; exact c.l, by rw [← this]; exact c.e⟩
    | true =>
      rw [if_pos rfl]
      have := FrS.all_put (most := most) c.ok hr e
      refine ih ⟨c.ok.next most, ?_, ?_⟩
      · rw [← c.l, this]; simp
      · rw [← c.e, this]
theorem Cut.put {most : Int} {F : List Pkt × FA × FrS} {a rest : List Int} {s : FrS} {h : HS} (ha : Bytes a) (c : Cut most F (a ++ rest) s h) : Cut most F rest (s.put a) h :=
  ⟨c.ok.put ha, by rw [FrS.put_put]; exact c.l, by rw [FrS.put_put]; exact c.e⟩
theorem Cut.whole {most : Int} {F : List Pkt × FA × FrS} {s : FrS} {h : HS} (c : Cut most F [] s h) (k : Nat) (hk : s.b.length < k) : hearK most k s h = (⟨F.1, F.2.1.f⟩, F.2.2) := by
  rw [hearK_full most k s h c.ok hk]
  have h1 := c.l
  have h2 := c.e
  rw [FrS.put_nil] at h1 h2
  rw [h1, h2]
theorem held_drained {most : Int} {s : FrS} (h : s.Ok) (hk : (s.next most).1.ok = false) : ((s.next most).2.b.length : Int) ≤ topP most + 4 := by
  have ht : 2 ≤ topP most := by unfold topP; omega
  cases hf : (s.next most).1.f with
  | some e => rw [(s.next_bad h most hk hf []).2.1]; simp; omega
  | none =>
    have := s.next_need h most hk hf
    rw [this.1]; exact this.2.2
theorem held_all {most : Int} : ∀ (k : Nat) (s : FrS), s.b.length ≤ k → s.Ok → ((s.all most).2.2.b.length : Int) ≤ topP most + 4 := by
  intro k
  induction k with
  | zero =>
    intro s hk h
    have hn : (s.next most).1.ok = false := by
      cases e : (s.next most).1.ok with
      | false => rfl
      | true => have := (s.next_ok h most e []).2.2.2.2.1; omega
    rw [FrS.all_no hn]; exact held_drained h hn
  | succ k ih =>
    intro s hk h
    cases e : (s.next most).1.ok with
    | false => rw [FrS.all_no e]; exact held_drained h e
    | true =>
      have := (s.next_ok h most e []).2.2.2.2.1
      rw [FrS.all_ok h e]
      exact ih _ (by omega) (h.next most)
end Go.Proofs.YthlbcgaegaoanaaDoor.Cr

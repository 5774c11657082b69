/- FrameWhole in plain Lean: what was written one behind the other is told as it was. No statement of the program. crierlaw4.known's calls in plain Lean. No statement of the program. A list whose things lie in another world's memory (handed in): its own block, the things read there. No statement of the program. crierlaw4's heard.hears: Next till it answers no packet. No statement of the program. crierlaw4's heard.same of what was heard alike. No statement of the program. crierlaw4.known: chapter 4's example holds. No statement of the program. FrameWhole's walk: packets that were written one behind the other come as they were. No statement of the program. -/
import Derived.Test.YthlbcgaegaoanaaGreatDoorMDec
import Derived.Test.YthlbcgaegaoanaaGreatDoorMTold
import Derived.Test.YthlbcgaegaoanaaGreatDoorMEnc
import Derived.Test.YthlbcgaegaoanaaGreatDoorMFormL
import Derived.Test.YthlbcgaegaoanaaGreatDoorMFirm
import Derived.Test.YthlbcgaegaoanaaGreatDoorMFew
import Derived.Great.BuildSlice
import Derived.Test.YthlbcgaegaoanaaGreatDoorMFrm
import Derived.Test.YthlbcgaegaoanaaGreatDoorMSame
namespace Go.Proofs.YthlbcgaegaoanaaGreatDoor.Cr
open Go Go.RowKit Go.Proofs.YthlbcgaegaoanaaGreatDoorW.PrintWords Go.Proofs.YthlbcgaegaoanaaGreatDoorW.PrintLast Go.Proofs.YthlbcgaegaoanaaGreatDoorW.PrintMore Go.Proofs.YthlbcgaegaoanaaGreatDoor.Kinds Go.Proofs.YthlbcgaegaoanaaGreatDoor.Utf Go.Proofs.YthlbcgaegaoanaaGreatDoor.Chk Go.Proofs.YthlbcgaegaoanaaGreatDoor.Rdr
set_option linter.unusedVariables false
set_option linter.unusedSimpArgs false
theorem FrS.all_step {most : Int} {s : FrS} (h : s.Ok) : (((s.next most).2.all most).1.length + (if (s.next most).1.ok then 1 else 0) = (s.all most).1.length) ∧ (s.next most).2.b.length ≤ s.b.length := by
  cases e : (s.next most).1.ok with
  | true =>
    have := (s.next_ok h most e []).2.2.2.2.1
    rw [FrS.all_ok h e]
    exact ⟨by simp, by omega⟩
  | false =>
    have h1 := FrS.all_put_no (most := most) h (m := []) e
    rw [FrS.put_nil, FrS.put_nil] at h1
    refine ⟨by rw [h1]; simp, ?_⟩
    cases hf : (s.next most).1.f with
    | some q => rw [(s.next_bad h most e hf []).2.1]; simp
    | none => rw [(s.next_need h most e hf).1]; exact Nat.le_refl _
theorem FrS.all_len {most : Int} : ∀ (k : Nat) {s : FrS}, s.Ok → s.b.length ≤ k → (s.all most).1.length ≤ s.b.length := by
  intro k
  induction k with
  | zero =>
    intro s h hk
    have hn : (s.next most).1.ok = false := by
      cases e : (s.next most).1.ok with
      | false => rfl
      | true => have := (s.next_ok h most e []).2.2.2.2.1; omega
    rw [FrS.all_no hn]; simp
  | succ k ih =>
    intro s h hk
    cases e : (s.next most).1.ok with
    | false => rw [FrS.all_no e]; simp
    | true =>
      have h1 := (s.next_ok h most e []).2.2.2.2.1
      have h2 := ih (h.next most) (by omega)
      rw [FrS.all_ok h e]
      simp only [List.length_cons]
      omega
def Wr (p : Pkt) : Prop := pchk p = 0 ∧ (fldE p).length ≤ 268435455 ∧ PB p
def encAll : List Pkt → List Int
  | [] => []
  | p :: l => encE p ++ encAll l
theorem encAll_app : ∀ (l m : List Pkt), encAll (l ++ m) = encAll l ++ encAll m
  | [], m => rfl
  | p :: l, m => by simp only [List.cons_append, encAll, encAll_app l m, List.append_assoc]
theorem topP_most : topP 268435455 = 268435455 := by decide
theorem encE_ne (p : Pkt) : (encE p).length ≠ 0 := by unfold encE; simp
theorem whole_next {p : Pkt} {m : List Int} {s : FrS} (hp : Wr p) (he : s.err = none) (hb : s.b = encE p ++ m) : s.next 268435455 = (⟨p, true, none⟩, ⟨m, wrap64 (s.spent + ((encE p).length : Int)), none⟩) := by
  have hd := dec_enc hp.1 hp.2.1 m 268435455
  rw [topP_most, if_neg (by have := hp.2.1; omega)] at hd
  rw [FrS.next_none _ he, hb, hd]
  unfold nextF
  have hn : ((encE p).length : Int) ≠ 0 := by have := encE_ne p; omega
  simp only [if_neg hn, Int.toNat_natCast, hb, List.drop_left]
theorem whole_all : ∀ (m : List Pkt) (s : FrS), s.Ok → s.err = none → (∀ p ∈ m, Wr p) → s.b = encAll m → (s.all 268435455).1 = m ∧ (s.all 268435455).2.1.f = none ∧ (s.all 268435455).2.2.b = [] ∧ (s.all 268435455).2.2.err = none := by
  intro m
  induction m with
  | nil =>
    intro s hs he _ hb
    have hn : s.next 268435455 = (⟨noPkt, false, none⟩, s) := by rw [FrS.next_none _ he, hb]; simp only [encAll, decP_nil, nextF, if_true]
    rw [FrS.all_no (by rw [hn]), hn]
    exact ⟨rfl, rfl, hb, he⟩
  | cons p m ih =>
    intro s hs he hw hb
    have hn := whole_next (hw p List.mem_cons_self) he hb
    have hk : (s.next 268435455).1.ok = true := by rw [hn]
    have h2 := ih (s.next 268435455).2 (hs.next _) (by rw [hn]) (fun q hq => hw q (List.mem_cons_of_mem _ hq)) (by rw [hn])
    rw [FrS.all_ok hs hk]
    refine ⟨?_, h2.2⟩
    show (s.next 268435455).1.p :: _ = _
    rw [h2.1, hn]
structure Wh (l : List Pkt) (s : FrS) (h : HS) : Prop where
  ex : ∃ m, h.l ++ m = l ∧ s.b = encAll m ∧ ∀ p ∈ m, Wr p
  err : s.err = none
  last : h.last = none
theorem Wh.new : Wh [] FrS.new ⟨[], none⟩ := ⟨⟨[], rfl, rfl, by simp⟩, rfl, rfl⟩
theorem Wh.put {l : List Pkt} {s : FrS} {h : HS} (c : Wh l s h) {p : Pkt} (hp : Wr p) : Wh (l ++ [p]) (s.put (encE p)) h := by
  obtain ⟨m, h1, h2, h3⟩ := c.ex
  refine ⟨⟨m ++ [p], by rw [← List.append_assoc, h1], ?_, fun q hq => ?_⟩, ?_, c.last⟩
  · rw [encAll_app]
    unfold FrS.put
    rw [c.err]
    simp [h2, encAll]
  · rcases List.mem_append.1 hq with hq | hq
    · exact h3 q hq
    · rw [List.mem_singleton.1 hq]; exact hp
  · unfold FrS.put
    rw [c.err]
    rfl
theorem Wh.all {l : List Pkt} {s : FrS} {h : HS} (c : Wh l s h) (hs : s.Ok) : h.l.length + (s.all 268435455).1.length = l.length := by
  obtain ⟨m, h1, h2, h3⟩ := c.ex
  rw [(whole_all m s hs c.err h3 h2).1, ← h1, List.length_append]
theorem Wh.hear {l : List Pkt} {s : FrS} {h : HS} (c : Wh l s h) (hs : s.Ok) (K : Nat) (hk : s.b.length < K) : (hearK 268435455 K s h).1 = ⟨l, none⟩ ∧ (hearK 268435455 K s h).2.b = [] ∧ Wh l (hearK 268435455 K s h).2 (hearK 268435455 K s h).1 := by
  obtain ⟨m, h1, h2, h3⟩ := c.ex
  obtain ⟨w1, w2, w3, w4⟩ := whole_all m s hs c.err h3 h2
  rw [hearK_full _ K s h hs hk]
  have e : (⟨h.l ++ (s.all 268435455).1, (s.all 268435455).2.1.f⟩ : HS) = ⟨l, none⟩ := by rw [w1, w2, h1]
  exact ⟨e, w3, ⟨[], by simp only [w1, h1, List.append_nil], by rw [w3]; rfl, by simp⟩, w4, w2⟩
end Go.Proofs.YthlbcgaegaoanaaGreatDoor.Cr

namespace Go.Proofs.YthlbcgaegaoanaaGreatDoor.Cr
open Go Go.RowKit Go.Proofs.YthlbcgaegaoanaaGreatDoorW.PrintWords Go.Proofs.YthlbcgaegaoanaaGreatDoorW.PrintLast Go.Proofs.YthlbcgaegaoanaaGreatDoorW.PrintMore Go.Proofs.YthlbcgaegaoanaaGreatDoor.Kinds Go.Proofs.YthlbcgaegaoanaaGreatDoor.Utf Go.Proofs.YthlbcgaegaoanaaGreatDoor.Chk Go.Proofs.YthlbcgaegaoanaaGreatDoor.Rdr
def pingP : Pkt := { noPkt with kind := 12 }
theorem k4a : (FrS.new.put [192]) = ⟨[192], 0, none⟩ := rfl
theorem k4b : FrS.next 100 ⟨[192], 0, none⟩ = (⟨noPkt, false, none⟩, ⟨[192], 0, none⟩) := by kernel_rfl
theorem k4c : (FrS.put ⟨[192], 0, none⟩ [0, 192, 0, 224]) = ⟨[192, 0, 192, 0, 224], 0, none⟩ := rfl
theorem k4d : FrS.next 100 ⟨[192, 0, 192, 0, 224], 0, none⟩ = (⟨pingP, true, none⟩, ⟨[192, 0, 224], 2, none⟩) := by kernel_rfl
theorem k4e : FrS.next 100 ⟨[192, 0, 224], 2, none⟩ = (⟨pingP, true, none⟩, ⟨[224], 4, none⟩) := by kernel_rfl
theorem k4f : (FrS.put ⟨[224], 4, none⟩ [1, 7]) = ⟨[224, 1, 7], 4, none⟩ := rfl
theorem k4g : FrS.next 100 ⟨[224, 1, 7], 4, none⟩ = (⟨noPkt, false, some (6, 15)⟩, ⟨[], 4, some (6, 15)⟩) := by kernel_rfl
theorem k4h : (FrS.put ⟨[], 4, some (6, 15)⟩ [192, 0]) = ⟨[], 4, some (6, 15)⟩ := rfl
end Go.Proofs.YthlbcgaegaoanaaGreatDoor.Cr

namespace Go.Proofs.YthlbcgaegaoanaaGreatDoor.Cr
open Go Go.RowKit Go.Proofs.YthlbcgaegaoanaaGreatDoorW.PrintWords Go.Proofs.YthlbcgaegaoanaaGreatDoorW.PrintLast Go.Proofs.YthlbcgaegaoanaaGreatDoorW.PrintMore Go.Proofs.YthlbcgaegaoanaaGreatDoor.Kinds Go.Proofs.YthlbcgaegaoanaaGreatDoor.Utf Go.Proofs.YthlbcgaegaoanaaGreatDoor.Chk Go.Proofs.YthlbcgaegaoanaaGreatDoor.Rdr
set_option linter.unusedVariables false
set_option linter.unusedSimpArgs false
def kOf (w0 : World) : Kd Pkt where
  sz := 25
  E := []
  K := fun w p cs => kPkt.K w0 p cs
  M := fun w base ok p cs => kPkt.K w0 p cs
  K_len := fun h => kPkt.K_len h
  K_one := fun h => kPkt.K_one h
  K_below := fun _ h => h
  K_of_M := fun h => h
  M_mono := fun _ h => h
  M_bound := fun h => h
  M_move := fun _ h => h
  M_lower := fun _ h => h
theorem Kd.R_toOf {w : World} {e base : Nat} {ok : Nat → Prop} {v : Value} {l : List Pkt} (h : kPkt.R e w base ok v l) : (kOf w).R e w base ok v l := by
  obtain ⟨h0, inner, ho, hr⟩ := h
  exact ⟨h0, inner, ho, hr.imp_ (fun _ _ hp => kPkt.K_of_M hp)⟩
theorem Kd.R_ofBelow {w0 w w1 : World} {e base : Nat} {ok : Nat → Prop} {v : Value} {l : List Pkt} (h : (kOf w0).R e w base ok v l) (hb : Below w0.heap.size w0 w1) : (kOf w1).R e w base ok v l := by
  obtain ⟨h0, inner, ho, hr⟩ := h
  exact ⟨h0, inner, ho, hr.imp_ (fun _ _ hp => kPkt.K_below hb hp)⟩
theorem run_load_at {P : Program} (w : World) (ad : Addr) (ty : TypeId) (cs : List Value) (d : TypeDesc) (hc : ∀ j v, cs[j]? = some v → w.cell? (ad.add j) = some v)
    (hu : P.underlying ty = some d) (hd : d.isRow = true) (hi : (P.info? ty).map (·.size) = some cs.length) :
    (loadVar ty ad).run P w = .ok (.agg cs.toArray) w := by
  have hl : (loadCells ad cs.length).run P w = .ok cs.toArray w := run_loadCells_list (P := P) w ad cs hc
  cases hq : P.info? ty with
  | none => simp [hq] at hi
  | some i =>
    have hs : i.size = cs.length := by simpa [hq] using hi
    have hagg : (isAgg ty).run P w = .ok true w := by
      unfold isAgg
      rw [Sem.run_bind, run_underlying hu w]
      cases d <;> simp_all
    simp [loadVar, Sem.run_bind, hagg, sizeOf, typeInfo, hq, hs, hl]
theorem wpList_load_atF {P : Program} {ops : Array Oper} {rest : List Oper} {op : Oper} {a : Act} {w : World} {Q : Exit → Act → World → Prop} (hw : Region.wanted op (yielded ops a.tmps) = true) (ty : TypeId) (x : Operand) (ho : op.op = .load ty x)
    (ad : Addr) (hx : a.eval x = .pointer (some ad)) (cs : List Value) (d : TypeDesc) (hc : ∀ j v, cs[j]? = some v → w.cell? (ad.add j) = some v)
    (hu : P.underlying ty = some d) (hd : d.isRow = true) (hi : (P.info? ty).map (·.size) = some cs.length)
    (h : wpList P ops Q rest (a.put op.dst (.agg cs.toArray)) w) : wpList P ops Q (op :: rest) a w :=
  wpList_step fun _ hK => by
    simp only [hw, if_true]
    unfold Oper.wp execOp
    simp only [ho, hx, Instr.loadAt, Instr.sureAddr, Sem.run_bind, Sem.run_pure, Result.andThen_ok, run_load_at w ad ty cs d hc hu hd hi]
    exact hK _ _ h
theorem Addr.add_add_ (a : Addr) (m n : Nat) : (a.add m).add n = a.add (m + n) := by
  unfold Addr.add
  by_cases hm : m = 0 <;> by_cases hn : n = 0 <;> simp_all <;> omega
theorem pkt_at {w : World} {A : Option Addr} {n : Nat} {xs : List Pkt} (h : kPkt.C w A n xs) (i : Nat) (hx : i < xs.length) :
    ∃ ad cs, A = some ad ∧ kPkt.K w xs[i] cs ∧ ∀ j v, cs[j]? = some v → w.cell? ((ad.add (i * 25)).add j) = some v := by
  have hn : xs.length = n := h.1
  obtain ⟨ad, c, hA, _, hK, hc⟩ := Kd.C_get h noPkt (i : Int) (by omega) (by omega)
  rw [Int.toNat_natCast, List.getD_eq_getElem?_getD, List.getElem?_eq_getElem hx] at hK
  have hsz : kPkt.sz = 25 := rfl
  refine ⟨ad, c, hA, hK, fun j v hj => ?_⟩
  rw [Addr.add_add_]
  have := hc j v hj
  rwa [Int.toNat_natCast, hsz] at this
theorem cell_keepK {w w' : World} {n : Nat} (hn : n = w.heap.size) (hb : Below n w w') (p : Addr) (v : Value) (h : w.cell? p = some v) : w'.cell? p = some v := by
  subst hn
  have hlt : p.block < w.heap.size := by
    refine Classical.byContradiction (fun hn => ?_)
    unfold World.cell? at h
    rw [Array.getElem?_eq_none (by omega)] at h
    cases h
  exact (hb.cell (p := p) hlt).trans h
theorem wpList_buildOneK {P : Program} {ops : Array Oper} {rest : List Oper} {o : Oper} {a : Act} {w : World} {Q : Exit → Act → World → Prop} (hg : o.guard = none) (t e : TypeId) (x : Operand) (ho : o.op = .buildSlice t 1 #[(0, x)])
    (cs : List Value) (hx : a.eval x = .agg cs.toArray) (z : Value) (sz bytes : Nat) (hu : P.underlying t = some (.slice e)) (hinfo : (P.info? e).map (fun i => (i.zero, i.size, i.bytes)) = some (some z, sz, bytes)) (hz : z.cells.size = sz) (hl : cs.length = sz) (h0 : 0 < sz) (hsm : sz ≤ 2 ^ 24)
    (h : wpList P ops Q rest (a.put o.dst (.slice (some ⟨w.heap.size, 0, none⟩) 1 1)) (w.alloc (.cells cs.toArray e))) : wpList P ops Q (o :: rest) a w := by
  obtain ⟨ie, hi, hzz⟩ := Option.map_eq_some_iff.1 hinfo
  simp only [Prod.mk.injEq] at hzz
  obtain ⟨hz0, hz1, hz2⟩ := hzz
  refine wpList_buildSlice hg t e 1 _ ho cs.toArray ie z hu hi hz0 (by rw [hz1]; omega) (by rw [hz1]; omega) ?_ h
  have hf := Great.fill_whole (s := ie.size) (by omega) [.agg cs.toArray] ((Array.range (1 * ie.size)).map (z.cells[· % z.cells.size]!)) (by simp [Value.cells, hl, hz1]) (by simp)
  simpa [hx, Value.cells] using hf
/-! ### crierroom's Count of packets -/
def pktsC : Int → List Pkt → Int
  | v, [] => v
  | v, p :: l => pktsC (pktC v p) l
theorem msgC_neg {v : Int} (h : v < 0) (m : Msg) : msgC v m = v := by unfold msgC; rw [tadd_neg h, tadd_neg h]
theorem pktC_neg {v : Int} (h : v < 0) (p : Pkt) : pktC v p = v := by
  unfold pktC
  rw [tadd_neg h, tadd_neg h, tadd_neg h, msgC_neg h, msgC_neg h, asksC_neg _ h, addP_neg h, txtsC_neg _ h]
theorem pktsC_neg : ∀ (l : List Pkt) {v : Int}, v < 0 → pktsC v l = v
  | [], v, h => rfl
  | p :: l, v, h => by simp only [pktsC]; rw [pktC_neg h]; exact pktsC_neg l h
set_option maxRecDepth 100000 in
theorem cpkts_any {K : Nat} {v : Int} {w0 w : World} (h : CtIs K v w) (l : List Pkt) (A : Option Addr) (n c : Nat) (hn : n = l.length) (hl : l.length ≤ 9223372036854775807) (hs : ∀ p ∈ l, PFits p) (hC : kPkt.C w0 A l.length l) (h0 : Below w0.heap.size w0 w) (h0K : w0.heap.size ≤ K) :
    Calls Tryz.prog 38 #[.pointer (some ⟨K, 0, none⟩), .slice A n c] w fun e w' => e = .returned (.tuple #[]) ∧ CtTo K w (pktsC v l) w' := by
  subst hn
  have HC := Aside0.mk (And.intro hC (And.intro h0 h0K))
  have HS := Aside0.mk hs
  have HL := Aside0.mk hl
  have HV := Aside0.mk (show CtTo K w v w from CtTo.refl h)
  clear h hC hs hl h0 h0K
  go_enter Tryz.func38, Tryz.ntmps38
  go_wp2_with fail
  go_loopg [4] l.length (fun q i wr => ∃ (k : Nat) (v1 : Int), i = .int .i64 (k : Int) ∧ k + q = l.length ∧ Aside0 (CtTo K w v1 wr) ∧ Aside0 (pktsC v1 (l.drop k) = pktsC v l))
  case atStart => exact ⟨0, v, rfl, by omega, HV, ⟨rfl⟩⟩
  case round =>
    obtain ⟨k, v1, rfl, hkq, HR, HE⟩ := hrel
    clear HV
    rcases Nat.lt_or_ge k l.length with hk | hk
    · have t0 : decide ((k : Int) < (l.length : Int)) = true := decide_eq_true (by omega)
      have hkl := HL.out
      have ek : wrap64 ((k : Int) + 1) = (k : Int) + 1 := by unfold wrap64; omega
      obtain ⟨q1, rfl⟩ : ∃ q1, gk = q1 + 1 := ⟨gk - 1, by omega⟩
      by_cases hv : 0 ≤ v1
      · have tv : decide (0 ≤ v1) = true := decide_eq_true hv
        obtain ⟨ad1, cs1, hA1, hK1, cx⟩ := pkt_at HC.out.1 k hk
        subst hA1
        have h0r : Below w0.heap.size w0 wr := HC.out.2.1.trans (HR.out.bel.mono HC.out.2.2)
        have HCL := Aside0.mk (show ∀ j u, cs1[j]? = some u → wr.cell? ((ad1.add (k * 25)).add j) = some u from fun j u hj => cell_keepK rfl h0r _ _ (cx j u hj))
        have HKW := Aside0.mk (show ∀ W, Below K wr W → kPkt.K W l[k] cs1 from fun W hb => kPkt.K_below (h0r.trans (hb.mono HC.out.2.2)) hK1)
        have HSZ := Aside0.mk (pkt_szL hK1)
        have HFS := Aside0.mk (HS.out l[k] (List.getElem_mem hk))
        have HE2 := Aside0.mk (show pktsC (pktC v1 l[k]) (l.drop (k + 1)) = pktsC v l by
          have := HE.out
          rw [List.drop_eq_getElem_cons hk] at this
          exact this)
        clear cx h0r hK1
        generalize l[k] = p at *
        have hlt : ((k : Int) < (l.length : Int)) := by omega
        have h0 : (0 : Int) ≤ (k : Int) := by omega
        have HKQ := Aside0.mk hkq
        clear hkq hk hkl hv
        go_wp2_with (first
          | (refine wpList_load_atF (by rfl) 38 (.tmp 18) rfl (ad1.add (k * 25)) rfl cs1 _ HCL.out Tryz.underlying38 rfl HSZ.out ?_)
          | (go_at_call 39; (with_reducible refine (cok_any HR.out.ct).mono ?_); rintro e w5 ⟨rfl, rfl⟩)
          | (go_at_call 77; (with_reducible refine (cpkt_any HR.out.ct p cs1 HFS.out HKW.out).mono ?_); rintro e w6 ⟨rfl, hC6⟩; have H6 := Aside0.mk (HR.out.trans hC6); clear hC6))
        go_roundg q1
        case measure => exact Nat.lt_succ_self _
        case rel => exact ⟨k + 1, _, by rw [show (((k + 1 : Nat) : Int)) = (k : Int) + 1 by omega]; try rw [ek], by have := HKQ.out; omega, H6, HE2⟩
      · have tv : decide (0 ≤ v1) = false := decide_eq_false hv
        have HF := Aside0.mk (show pktsC v l = v1 by rw [← HE.out]; exact pktsC_neg _ (by omega))
        have hlt : ((k : Int) < (l.length : Int)) := by omega
        have h0 : (0 : Int) ≤ (k : Int) := by omega
        clear hkq hkl hv
        go_wp2_with (go_at_call 39; (with_reducible refine (cok_any HR.out.ct).mono ?_); rintro e w5 ⟨rfl, rfl⟩)
        all_goals first
          | (exfalso; omega)
          | (go_end0; exact ⟨rfl, by rw [HF.out]; exact HR.out⟩)
    · have t0 : decide ((k : Int) < (l.length : Int)) = false := decide_eq_false (by omega)
      have t0n : decide (k < l.length) = false := decide_eq_false (by omega)
      have HF := Aside0.mk (show pktsC v l = v1 by rw [← HE.out, List.drop_eq_nil_of_le hk]; rfl)
      clear hkq hk
      go_wp2
      go_end0
      exact ⟨rfl, by rw [HF.out]; exact HR.out⟩
end Go.Proofs.YthlbcgaegaoanaaGreatDoor.Cr

namespace Go.Proofs.YthlbcgaegaoanaaGreatDoor.Cr
open Go Go.RowKit Go.Proofs.YthlbcgaegaoanaaGreatDoorW.PrintWords Go.Proofs.YthlbcgaegaoanaaGreatDoorW.PrintLast Go.Proofs.YthlbcgaegaoanaaGreatDoorW.PrintMore Go.Proofs.YthlbcgaegaoanaaGreatDoor.Kinds Go.Proofs.YthlbcgaegaoanaaGreatDoor.Utf Go.Proofs.YthlbcgaegaoanaaGreatDoor.Chk Go.Proofs.YthlbcgaegaoanaaGreatDoor.Rdr
set_option linter.unusedVariables false
set_option linter.unusedSimpArgs false
theorem buildOne_ {P : Program} {ops : Array Oper} {oi : Oper} {a : Act} {w : World} {K : Act → World → Prop} {Q : Exit → Act → World → Prop} (hw : Region.wanted oi (yielded ops a.tmps) = true) (t e : TypeId) (x : Operand) (ho : oi.op = .buildSlice t 1 #[(0, x)])
    (cs : List Value) (hx : a.eval x = .agg cs.toArray) (z : Value) (sz bytes : Nat) (hu : P.underlying t = some (.slice e)) (hinfo : (P.info? e).map (fun i => (i.zero, i.size, i.bytes)) = some (some z, sz, bytes)) (hz : z.cells.size = sz) (hl : cs.length = sz) (h0 : 0 < sz) (hsm : sz ≤ 2 ^ 24)
    (h : K (a.put oi.dst (.slice (some ⟨w.heap.size, 0, none⟩) 1 1)) (w.alloc (.cells cs.toArray e))) : if Region.wanted oi (yielded ops a.tmps) = true then Oper.wp P oi a w K Q else K (a.put oi.dst undef) w := by
  rw [if_pos hw]
  obtain ⟨ie, hi, hzz⟩ := Option.map_eq_some_iff.1 hinfo
  simp only [Prod.mk.injEq] at hzz
  obtain ⟨hz0, hz1, hz2⟩ := hzz
  refine wp_buildSlice t e 1 _ ho cs.toArray ie z hu hi hz0 (by rw [hz1]; omega) (by rw [hz1]; omega) ?_ h
  have hf := Great.fill_whole (s := ie.size) (by omega) [.agg cs.toArray] ((Array.range (1 * ie.size)).map (z.cells[· % z.cells.size]!)) (by simp [Value.cells, hl, hz1]) (by simp)
  simpa [hx, Value.cells] using hf
theorem infoPkt : (Tryz.prog.info? 38).map (fun i => (i.zero, i.size, i.bytes)) = some (some (.agg noCells), 25, 328) := by kernel_rfl
structure HdIs (w : World) (z nb H : Nat) (h : HS) : Prop where
  ex : ∃ A c, w.heap[H]? = some (.cells #[.slice A h.l.length c, .int .i64 (toldP h.last).1, .int .i64 (toldP h.last).2, .bool false] 87 (0, 0)) ∧ kPkt.R 38 w z (fun k => k ≠ nb) (.slice A h.l.length c) h.l
def okH (F H z nb : Nat) : Nat → Prop := fun k => k = F ∨ k = H ∨ (z ≤ k ∧ k ≠ nb)
section
variable {w w1 w2 : World} {base F H z nb : Nat} {most : Int} {s : FrS} {h : HS}
theorem HdIs.lt (hd : HdIs w z nb H h) : H < w.heap.size := by
  obtain ⟨A, c, h1, _⟩ := hd.ex
  exact blk_lt h1
theorem HdIs.frTo {ok : Nat → Prop} (hd : HdIs w z nb H h) (hf : Fr ok w w1) (hn : ∀ k, k < w.heap.size → ok k → k ≠ H ∧ (k < z ∨ k = nb)) {nb' : Nat} (hb : w.heap.size ≤ nb' ∨ nb' = nb ∨ nb' < z) : HdIs w1 z nb' H h := by
  obtain ⟨A, c, h1, h2⟩ := hd.ex
  refine ⟨A, c, (hf.block H (blk_lt h1) (fun e => (hn H (blk_lt h1) e).1 rfl)).trans h1, Kd.R_mono (Kd.R_move (Kd.R_bound h2) (fun k hk => hf.block k hk.2.2.1 (fun e => ?_))) (fun k hk e => ?_)⟩
  · have h4 := (hn k hk.2.2.1 e).2
    have h5 := hk.1
    have h6 := hk.2.1
    rcases h4 with h4 | h4
    · omega
    · exact h5 h4
  · have h5 := hk.1
    have h6 := hk.2.1
    have h7 := hk.2.2.1
    rcases hb with hb | hb | hb
    · omega
    · exact h5 (e.trans hb)
    · omega
theorem HdIs.fr {ok : Nat → Prop} (hd : HdIs w z nb H h) (hf : Fr ok w w1) (hn : ∀ k, k < w.heap.size → ok k → k ≠ H ∧ (k < z ∨ k = nb)) : HdIs w1 z nb H h := hd.frTo hf hn (.inr (.inl rfl))
theorem HdIs.below (hd : HdIs w z nb H h) (hb : Below w.heap.size w w1) : HdIs w1 z nb H h := hd.fr (Fr.of_below (fun _ => False) hb) (fun _ _ e => e.elim)
theorem FrIs.setH (hf : FrIs w base F most s) {cells : Array Value} (hH : w.heap[H]? = some (.cells cells 87 (0, 0))) (j : Nat) (u : Value) : FrIs (w.setCell ⟨H, j, none⟩ u) base F most s :=
  hf.fr ((Fr.refl (fun k => k = H) w).setCell (p := ⟨H, j, none⟩) (fun _ => rfl) u) (fun k hk e => ⟨_, _, e ▸ hH, by decide, by decide, by decide⟩)
end
structure HrAt (w0 w : World) (base F H z nb : Nat) (most : Int) (s1 : FrS) (h1 : HS) (wr : World) : Prop where
  fr : FrIs wr base F most s1
  hd : HdIs wr z nb H h1
  mv : Fr (okH F H z nb) w wr
  bel : Below w0.heap.size w0 wr
  nz : NZ s1.err
  bnd : h1.l.length + (s1.all most).1.length ≤ 100000 ∧ s1.b.length ≤ 1099511627770
  sz : z ≤ wr.heap.size
theorem HrAt.grow {w0 w W w2 : World} {base F H z nb : Nat} {most : Int} {A A1 : Option Addr} {c c1 : Nat} {l : List Pkt} {p : Pkt} {f : Option (Int × Int)} {s2 : FrS}
    (hlo : w0.heap.size ≤ F ∧ w0.heap.size ≤ H ∧ w0.heap.size ≤ z ∧ F < z ∧ H < z ∧ F ≠ H ∧ nb < w.heap.size)
    (hF : FrIs W base F most s2) (hH : W.heap[H]? = some (.cells #[.slice A l.length c, .int .i64 (toldP f).1, .int .i64 (toldP f).2, .bool false] 87 (0, 0))) (hR : kPkt.R 38 W z (fun k => k ≠ nb) (.slice A l.length c) l)
    (hmv : Fr (okH F H z nb) w W) (hbel : Below w0.heap.size w0 W) (hnz : NZ s2.err) (hbnd : l.length + 1 + (s2.all most).1.length ≤ 100000 ∧ s2.b.length ≤ 1099511627770) (hsz : z ≤ W.heap.size)
    {v1 : Value} (hq : kPkt.R 38 w2 z (fun k => k ≠ nb) v1 (l ++ [p])) (hg : W.drew.grownBy w2 (Value.slice A l.length c).ownBlock) (N : Nat) (hN : N = (l ++ [p]).length) (hv : v1 = .slice A1 N c1) :
    HrAt w0 w base F H z nb most s2 ⟨l ++ [p], f⟩ (w2.setCell ⟨H, 0, none⟩ (.slice A1 N c1)) := by
  subst hv hN
  have hf : Fr (fun k => some k = (Value.slice A l.length c).ownBlock) W w2 := ((Fr.refl (fun _ => False) W).drew.mono (fun _ _ e => e.elim)).trans (ok' := fun k => some k = (Value.slice A l.length c).ownBlock) ⟨hg.os, hg.tape, hg.output, hg.size, fun k hk hn => hg.block k hk hn⟩ (fun _ _ e => e)
  have hty : ∀ k, some k = (Value.slice A l.length c).ownBlock → z ≤ k ∧ k ≠ nb ∧ ∃ cells, W.heap[k]? = some (.cells cells 38 (0, 0)) := fun k e => by
    obtain ⟨_, ho⟩ := Kd.R_own hR
    exact ⟨own_base ho k e.symm, hR.1 k e.symm, own_typed ho k e.symm⟩
  have hH2 : w2.heap[H]? = some (.cells #[.slice A l.length c, .int .i64 (toldP f).1, .int .i64 (toldP f).2, .bool false] 87 (0, 0)) := (hf.block H (blk_lt hH) (fun e => by have := (hty H e).1; omega)).trans hH
  have hF2 : FrIs w2 base F most s2 := hF.fr hf (fun k hk e => by
    obtain ⟨cells, hc⟩ := (hty k e).2.2
    exact ⟨cells, _, hc, by decide, by decide, by decide⟩)
  have hS : Fr (fun k => k = H) w2 (w2.setCell ⟨H, 0, none⟩ (.slice A1 (l ++ [p]).length c1)) := (Fr.refl (fun k => k = H) w2).setCell (p := ⟨H, 0, none⟩) (fun _ => rfl) _
  refine ⟨hF2.setH hH2 0 _, ⟨A1, c1, blk_set hH2 0 _, ?_⟩, ?_, ?_, hnz, ?_, Nat.le_trans hsz (Nat.le_trans hf.size hS.size)⟩
  · exact Kd.R_mono (Kd.R_move (Kd.R_bound hq) (fun k hk => hS.block k hk.2.2.1 (fun e => by have := hk.2.1; omega))) (fun k hk => hk.1)
  · exact (hmv.trans hf (fun k _ e => .inr (.inr ⟨(hty k e).1, (hty k e).2.1⟩))).trans hS (fun k _ e => .inr (.inl e))
  · exact hS.below (hf.below hbel (fun k e => Nat.le_trans hlo.2.2.1 (hty k e).1) hbel.size) (fun k e => by subst e; exact hlo.2.1) (Nat.le_trans hbel.size hf.size)
  · rw [List.length_append, List.length_singleton]
    exact hbnd
set_option maxRecDepth 100000 in
set_option maxHeartbeats 4000000 in
theorem hears_any {w0 w : World} {base F H z nb : Nat} {most : Int} {s : FrS} {h : HS} (hg : Gl w0) (hh : HrAt w0 w base F H z nb most s h w) (hlo : w0.heap.size ≤ F ∧ w0.heap.size ≤ H ∧ w0.heap.size ≤ z ∧ F < z ∧ H < z ∧ F ≠ H ∧ nb < w.heap.size) (n : Int) (K : Nat) (hn : (n = (K : Int) ∧ K ≤ 5) ∨ (n = -1 ∧ s.b.length < K ∧ K ≤ 1099511627780)) :
    Calls Tryz.prog 42 #[.pointer (some ⟨H, 0, none⟩), .pointer (some ⟨F, 0, none⟩), .int .i64 n] w fun e w' => e = .returned (.tuple #[]) ∧ HrAt w0 w base F H z nb most (hearK most K s h).2 (hearK most K s h).1 w' := by
  obtain ⟨r0, hr0⟩ : ∃ r0, r0 = hearK most K s h := ⟨_, rfl⟩
  rw [← hr0]
  have HG := Aside0.mk hg
  have HH := Aside0.mk hh
  have HLO := Aside0.mk hlo
  have HR0 := Aside0.mk (show hearK most K s h = r0 from hr0.symm)
  clear hg hh hr0 hlo
  go_enter Tryz.func42, Tryz.ntmps42
  go_wp2_with fail
  go_loopg [2] K (fun q i wr => ∃ (k : Nat) (s1 : FrS) (h1 : HS), i = .int .i64 (n - (k : Int)) ∧ k + q = K ∧ (n = -1 → s1.b.length < q) ∧ Aside0 (HrAt w0 w base F H z nb most s1 h1 wr) ∧ Aside0 (hearK most q s1 h1 = r0))
  case atStart => exact ⟨0, s, h, by simp, by omega, by omega, HH, HR0⟩
  case round =>
    obtain ⟨k, s1, h1, rfl, hkq, hlt, HA, HE⟩ := hrel
    clear HH HR0
    cases gk with
    | zero =>
      have t0 : ((n - (k : Int)) != 0) = false := by
        rcases hn with hn | hn
        · simp; omega
        · have := hlt hn.1; omega
      have HE0 := Aside0.mk (show (h1, s1) = r0 from HE.out)
      clear hkq hlt hn HE
      go_wp2
      go_end0
      exact ⟨rfl, by rw [← HE0.out]; exact HA.out⟩
    | succ q1 =>
      have t0 : ((n - (k : Int)) != 0) = true := by
        rcases hn with hn | hn <;> simp <;> omega
      have ek : wrap64 (n - (k : Int) - 1) = n - ((k + 1 : Nat) : Int) := by
        rcases hn with hn | hn <;> unfold wrap64 <;> omega
      obtain ⟨r, hr⟩ : ∃ r, s1.next most = r := ⟨_, rfl⟩
      have HRR := Aside0.mk hr
      have HKQ := Aside0.mk (And.intro hkq (And.intro hlt hn))
      have HGR := Aside0.mk (HG.out.below HA.out.bel HG.out.sz HA.out.bel.size)
      have HEQ := Aside0.mk (show (if r.1.ok then hearK most q1 r.2 ⟨h1.l ++ [r.1.p], r.1.f⟩ else (⟨h1.l, r.1.f⟩, r.2)) = r0 by rw [← HE.out]; simp only [hearK]; rw [hr])
      have HNZ := Aside0.mk (show NZ r.1.f ∧ NZ r.2.err by rw [← hr]; exact FrS.nz_next HA.out.nz)
      clear hkq hlt hn HE hr
      go_upto_region 3 with (first
        | (go_at_call 46; (with_reducible refine (frmNext_any HGR.out HA.out.fr (HA.out.bnd.2)).mono ?_); rintro e w4 ⟨cs4, ev4, rfl, hM, hE, hF, hFr⟩; rw [HRR.out] at hM hE hF; have HM4 := Aside0.mk (And.intro hM (pk_open hM)); have HE4 := Aside0.mk hE; have HF4 := Aside0.mk (And.intro hF hFr); clear hM hE hF hFr; rw [HRR.out]; dsimp only)
        | (refine wpList_store_row rfl 38 _ _ rfl w4.heap.size _ rfl rfl 38 _ (heap_alloc_new w4 (.cells noCells 38)) HM4.out.2.1 HM4.out.2.2.1 HM4.out.2.2.2.1 ?_))
      obtain ⟨B, hB⟩ : ∃ B, B = w4.heap.size := ⟨_, rfl⟩
      obtain ⟨W5, hW5⟩ : ∃ W : World, W = (w4.alloc (.cells noCells 38)).setRow w4.heap.size cs4.toArray := ⟨_, rfl⟩
      have hn5 := pk_new w4 cs4
      rw [← hW5] at hn5
      have HB5 := Aside0.mk (show W5.heap[B]? = some (.cells cs4.toArray 38 (0, 0)) by rw [hB]; exact hn5.1)
      have HM5 := Aside0.mk (Kd.M_below HM4.out.1 hn5.2)
      have HE5 := Aside0.mk (ev_below HE4.out hn5.2)
      have HF5 := Aside0.mk (HF4.out.1.below hn5.2)
      have HFr5 := Aside0.mk (show Fr (fun k => k = F) wr W5 from HF4.out.2.trans (Fr.of_below (fun _ => False) hn5.2) (fun _ _ e => e.elim))
      have HO := Aside0.mk HM4.out.2
      have HBG := Aside0.mk (show wr.heap.size ≤ B by rw [hB]; exact HF4.out.2.size)
      refine wp_wld (w2 := W5) (by rw [hW5]; rfl) ?_
      rw [← hB]
      clear hB hW5 hn5 HM4 HE4 HF4
      obtain ⟨⟨a1, a2⟩, ht1⟩ : ∃ t, t = toldP r.1.f := ⟨_, rfl⟩
      have HT := Aside0.mk ht1
      clear ht1
      go_upto_region 4 with (go_at_call 78; (with_reducible refine (told4_any HE5.out HNZ.out.1).mono ?_); rintro e w6 ⟨rfl, hB⟩; rw [← HT.out]; have HB6 := Aside0.mk hB; clear hB; dsimp only)
      obtain ⟨T, hT⟩ : ∃ T, T = w6.heap.size := ⟨_, rfl⟩
      obtain ⟨W7, hW7⟩ : ∃ W : World, W = w6.alloc (.cells #[.int .i64 a1, .int .i64 a2] 70) := ⟨_, rfl⟩
      have HT7 := Aside0.mk (show W7.heap[T]? = some (.cells #[.int .i64 a1, .int .i64 a2] 70 (0, 0)) by rw [hW7, hT]; exact heap_alloc_new w6 _)
      have hb7 : Below W5.heap.size W5 W7 := by rw [hW7]; exact HB6.out.trans ((below_alloc (Below.refl _ _) _).mono HB6.out.size)
      obtain ⟨Ah, ch, hHw, hRw⟩ := HA.out.hd.ex
      have hH5 := (HFr5.out.block H (blk_lt hHw) (fun e => by have := HLO.out; omega)).trans hHw
      have hR5 : kPkt.R 38 W5 z (fun k => k ≠ nb) (.slice Ah h1.l.length ch) h1.l := Kd.R_mono (Kd.R_move (Kd.R_bound hRw) (fun k hk => HFr5.out.block k hk.2.2.1 (fun e => by have := HLO.out; have := hk.2.1; omega))) (fun k hk => hk.1)
      have HHW := Aside0.mk hRw
      have HBEL := Aside0.mk (show Below w0.heap.size w0 W7 from (HFr5.out.below HA.out.bel (fun k e => by have := HLO.out; subst e; exact this.1) HA.out.bel.size).trans (hb7.mono (Nat.le_trans HA.out.bel.size HFr5.out.size)))
      have HH7 := Aside0.mk ((hb7.block _ (blk_lt hH5)).trans hH5)
      have HR7 := Aside0.mk (Kd.R_below hR5 hb7)
      have HBK7 := Aside0.mk ((hb7.block _ (blk_lt HB5.out)).trans HB5.out)
      have HM7 := Aside0.mk (Kd.M_below HM5.out hb7)
      have HF7 := Aside0.mk (HF5.out.below hb7)
      have HFr7 := Aside0.mk (show Fr (okH F H z nb) w W7 from (HA.out.mv.trans HFr5.out (fun k _ e => .inl e)).trans (Fr.of_below (fun _ => False) hb7) (fun _ _ e => e.elim))
      have HWR := Aside0.mk (show wr.heap.size ≤ W5.heap.size ∧ wr.heap.size ≤ T ∧ z ≤ wr.heap.size ∧ H < wr.heap.size ∧ W5.heap.size ≤ W7.heap.size from ⟨HFr5.out.size, by rw [hT]; exact Nat.le_trans HFr5.out.size HB6.out.size, HA.out.sz, HA.out.hd.lt, hb7.size⟩)
      refine wp_wld (w2 := W7) (by rw [hW7]) ?_
      rw [← hT]
      have x0 : W7.cell? ⟨H, 0, none⟩ = some (.slice Ah h1.l.length ch) := blk_cell HH7.out 0
      have x3 : W7.cell? ⟨H, 3, none⟩ = some (.bool false) := blk_cell HH7.out 3
      have xf : W7.frozen? ⟨H, 3, none⟩ = false := blk_frozen HH7.out 3
      have y1 : W7.cell? ⟨T, 1, none⟩ = some (.int .i64 a2) := blk_cell HT7.out 1
      have tl : decide ((h1.l.length : Int) > 100000) = false := decide_eq_false (by have := HA.out.bnd.1; omega)
      have tl2 : decide (100000 < (h1.l.length : Int)) = false := decide_eq_false (by have := HA.out.bnd.1; omega)
      obtain ⟨ok, hok⟩ : ∃ ok, ok = r.1.ok := ⟨_, rfl⟩
      have HOK := Aside0.mk hok
      have HA2 := Aside0.mk (show ok = true → a2 = 0 from fun e => by
        have h := (FrS.next_ok HA.out.fr.ok most (by rw [HRR.out, ← hok]; exact e) []).1
        rw [HRR.out] at h
        have ht := HT.out
        rw [h] at ht
        simp [toldP] at ht
        exact ht.2)
      rw [← hok]
      clear hok hb7 hHw hRw hH5 hR5 hT hW7
      have HTH := Aside0.mk (show H ≠ T by have := HWR.out; omega)
      have HT8 := Aside0.mk (blk_far HT7.out (p := ⟨H, 3, none⟩) (show T ≠ H from HTH.out.symm) (.bool false))
      have HH8 := Aside0.mk (show (W7.setCell ⟨H, 3, none⟩ (.bool false)).heap[H]? = _ from blk_set HH7.out 3 (.bool false))
      have HZ8 := Aside0.mk (show (W7.setCell ⟨H, 3, none⟩ (.bool false)).heap.size = W7.heap.size by simp)
      have ta : (ok && a2 != 0) = false := by
        have h := HA2.out
        revert h
        cases ok
        · intro _; rfl
        · intro h; rw [h rfl]; rfl
      cases ok
      all_goals
        try have ta2 : (a2 != 0) = false := ta
        go_upto_region 5 with fail
        obtain ⟨W8, hW8⟩ : ∃ W : World, W = W7.setCell ⟨H, 3, none⟩ (.bool false) := ⟨_, rfl⟩
        have hHT := HTH.out
        have HT8' := HT8.out
        have HH8' := HH8.out
        rw [← hW8] at HT8' HH8'
        rw [← hW8]
        clear x0 x3 xf y1 tl tl2
        have z3 : W8.cell? ⟨H, 3, none⟩ = some (.bool false) := blk_cell HH8' 3
        have z1 : W8.cell? ⟨H, 1, none⟩ = some (.int .i64 (toldP h1.last).1) := blk_cell HH8' 1
        have z2 : W8.cell? ⟨H, 2, none⟩ = some (.int .i64 (toldP h1.last).2) := blk_cell HH8' 2
        have y0 : W8.cell? ⟨T, 0, none⟩ = some (.int .i64 a1) := blk_cell HT8' 0
        have y1 : W8.cell? ⟨T, 1, none⟩ = some (.int .i64 a2) := blk_cell HT8' 1
        have f1 : W8.frozen? ⟨H, 1, none⟩ = false := blk_frozen HH8' 1
        have f2 : W8.frozen? ⟨H, 2, none⟩ = false := blk_frozen HH8' 2
        have HW8 := Aside0.mk hW8
        have HH8b := Aside0.mk HH8'
        clear hW8 HH8' HT8'
        go_upto_region 7 with fail
      all_goals
        obtain ⟨W9, hW9⟩ : ∃ W : World, W = (W8.setCell ⟨H, 1, none⟩ (.int .i64 a1)).setCell ⟨H, 2, none⟩ (.int .i64 a2) := ⟨_, rfl⟩
        have hH9 : W9.heap[H]? = some (.cells #[.slice Ah h1.l.length ch, .int .i64 a1, .int .i64 a2, .bool false] 87 (0, 0)) := by rw [hW9]; exact blk_set (blk_set HH8b.out 1 _) 2 _
        have hZ9 : Fr (fun k => k = H) W7 W9 := by
          rw [hW9, HW8.out]
          exact (((Fr.refl (fun k => k = H) W7).setCell (p := ⟨H, 3, none⟩) (fun _ => rfl) _).setCell (p := ⟨H, 1, none⟩) (fun _ => rfl) _).setCell (p := ⟨H, 2, none⟩) (fun _ => rfl) _
        have hHz : H < z := HLO.out.2.2.2.2.1
        have HR9 := Aside0.mk (show kPkt.R 38 W9 z (fun k => k ≠ nb) (.slice Ah h1.l.length ch) h1.l from Kd.R_mono (Kd.R_move (Kd.R_bound HR7.out) (fun k hk => hZ9.block k hk.2.2.1 (fun e => by have := hk.2.1; omega))) (fun k hk => hk.1))
        have HF9 := Aside0.mk (show FrIs W9 base F most r.2 from HF7.out.fr hZ9 (fun k hk e => by subst e; exact ⟨_, _, HH7.out, by decide, by decide, by decide⟩))
        have HFr9 := Aside0.mk (show Fr (okH F H z nb) w W9 from HFr7.out.trans hZ9 (fun k _ e => .inr (.inl e)))
        have HBL9 := Aside0.mk (show Below w0.heap.size w0 W9 from hZ9.below HBEL.out (fun k e => by have := HLO.out; subst e; exact this.2.1) HBEL.out.size)
        have HZW := Aside0.mk (show z ≤ wr.heap.size ∧ wr.heap.size ≤ W9.heap.size ∧ nb < wr.heap.size from by
          have h1 := HWR.out
          have h2 := hZ9.size
          have h3 := HLO.out.2.2.2.2.2.2
          have h4 := HA.out.mv.size
          omega)
        have HBK9 := Aside0.mk ((hZ9.block B (blk_lt HBK7.out) (fun e => by have h1 := HBG.out; have h2 := HWR.out; omega)).trans HBK7.out)
        have HM9 := Aside0.mk (show kPkt.M W9.drew z (fun k => wr.heap.size ≤ k) r.1.p cs4 from kPkt.M_lower HZW.out.1 (kPkt.M_mono (fun k hk => hk.2.1) (kPkt.M_bound (Kd.M_below (kPkt.M_mono (fun _ _ => trivial) (kPkt.M_move (fun k hk => hZ9.block k hk.2.2.1 (fun e => by have := hk.2.1; have := HWR.out; omega)) (kPkt.M_bound HM7.out))) (below_drew (Below.refl W9.heap.size W9))))))
        have HH9 := Aside0.mk hH9
        have HBN := Aside0.mk (show h1.l.length + (r.2.all most).1.length + (if r.1.ok then 1 else 0) ≤ 100000 ∧ r.2.b.length ≤ 1099511627770 ∧ (r.1.ok = true → r.2.b.length + 2 ≤ s1.b.length) by
          have h1 := FrS.all_step (most := most) HA.out.fr.ok
          have h2 := HA.out.bnd
          have h3 := fun e => (FrS.next_ok HA.out.fr.ok most e []).2.2.2.2.1
          rw [HRR.out] at h1 h3
          refine ⟨by omega, by omega, h3⟩)
        refine wp_wld (w2 := W9) (by rw [hW9]) ?_
        clear hW9 hH9 hZ9 hHz hHT z1 z2 z3 y0 y1 f1 f2 HT8 HH8 HW8 HH8b HBK7 HM7 HF7 HFr7 HR7 HBEL HH7 HT7 HTH
      · have HREQ := Aside0.mk (show r0 = (⟨h1.l, r.1.f⟩, r.2) by have := HEQ.out; rw [← HOK.out] at this; simpa using this.symm)
        have hto := HT.out
        clear HA2 ta
        go_wp2_with fail
        (try simp only [Exit.inBlock, Exit.then])
        refine bodyPost_ret (results_none rfl _ _ _) rfl ?_
        rw [HREQ.out]
        exact ⟨rfl, HF9.out, ⟨Ah, ch, by dsimp only; rw [← hto]; exact HH9.out, HR9.out⟩, HFr9.out, HBL9.out, HNZ.out.2, by have := HBN.out; exact ⟨by dsimp only; omega, this.2.1⟩, Nat.le_trans HZW.out.1 HZW.out.2.1⟩
      · have HREQ := Aside0.mk (show hearK most q1 r.2 ⟨h1.l ++ [r.1.p], r.1.f⟩ = r0 by have := HEQ.out; rw [← HOK.out] at this; simpa using this)
        have hk4 := kPkt.K_of_M HM9.out
        have HZL := Aside0.mk (pkt_szL hk4)
        have HCL := Aside0.mk (show cs4.length = 25 from kPkt.K_len hk4)
        have HBL := Aside0.mk (blk_lt HBK9.out)
        have x0 : W9.cell? ⟨H, 0, none⟩ = some (.slice Ah h1.l.length ch) := blk_cell HH9.out 0
        have xb : W9.rangeAt B 0 cs4 := pkt_range HBK9.out
        have HZ9 := Aside0.mk (show z ≤ W9.drew.heap.size from Nat.le_trans HZW.out.1 HZW.out.2.1)
        have HNB := Aside0.mk (show nb < W9.drew.heap.size ∧ nb < wr.heap.size from ⟨Nat.lt_of_lt_of_le HZW.out.2.2 HZW.out.2.1, HZW.out.2.2⟩)
        have HBND := Aside0.mk (show h1.l.length ≤ 100000 by have := HBN.out; omega)
        clear ta HA2 hk4
        try clear ta2
        go_upto_region 8 with fail
        refine start_ (n := 11) (S := fun w' => w'.cell? ⟨H, 0, none⟩ = some (.slice Ah h1.l.length ch) ∧ w'.rangeAt B 0 cs4) (ds := [7, 10]) #[false, false, false, false, false, false, false, false, false, false, false] (by kernel_rfl) rfl rfl ⟨x0, xb⟩ (fun hHeld => ?_)
        refine pure_ (i := 0) (N := some 63) (v := ?_) (a' := ?_) #[true, false, false, false, false, false, false, false, false, false, false] rfl rfl (by kernel_rfl) (fun _ _ _ h => h) (Or.inl ⟨by rfl, ?_⟩) ?_ ?_
        rotate_left
        · intro w'
          go_simp
          with_reducible rfl
        rotate_left
        · simp only [Act.put, List.setIfInBounds_toArray, List.set_cons_zero, List.set_cons_succ, i64_w, i32_w]
          rfl
        refine pure_ (i := 1) (N := some 64) (v := ?_) (a' := ?_) #[true, true, false, false, false, false, false, false, false, false, false] rfl rfl (by kernel_rfl) (fun _ _ _ h => h) (Or.inl ⟨by rfl, ?_⟩) ?_ ?_
        rotate_left
        · intro w'
          go_simp
          with_reducible rfl
        rotate_left
        · simp only [Act.put, List.setIfInBounds_toArray, List.set_cons_zero, List.set_cons_succ, i64_w, i32_w]
          rfl
        refine pure_ (i := 2) (N := some 65) (v := ?_) (a' := ?_) #[true, true, true, false, false, false, false, false, false, false, false] rfl rfl (by kernel_rfl) (fun _ _ _ h => h) (Or.inl ⟨by rfl, ?_⟩) ?_ ?_
        rotate_left
        · intro w'
          go_simp
          with_reducible rfl
        rotate_left
        · simp only [Act.put, List.setIfInBounds_toArray, List.set_cons_zero, List.set_cons_succ, i64_w, i32_w]
          rfl
        refine pure_ (i := 3) (N := some 66) (v := ?_) (a' := ?_) #[true, true, true, true, false, false, false, false, false, false, false] rfl rfl (by kernel_rfl) (fun _ _ _ h => h) (Or.inl ⟨by rfl, ?_⟩) ?_ ?_
        rotate_left
        · intro w'
          go_simp
          with_reducible rfl
        rotate_left
        · simp only [Act.put, List.setIfInBounds_toArray, List.set_cons_zero, List.set_cons_succ, i64_w, i32_w]
          rfl
        refine take_ (i := 4) (N := some 67) (v := ?_) (a' := ?_) #[true, true, true, true, true, false, false, false, false, false, false] rfl rfl (by kernel_rfl) (fun _ _ _ h => h) (Or.inl ⟨by rfl, ?_⟩) hHeld ?_ ?_
        rotate_left
        · rintro w' ⟨s0, s1⟩
          go_simp
          with_reducible rfl
        rotate_left
        · simp only [Act.put, List.setIfInBounds_toArray, List.set_cons_zero, List.set_cons_succ, i64_w, i32_w]
          rfl
        refine take_ (i := 5) (N := some 68) (v := .agg cs4.toArray) (a' := ?_) #[true, true, true, true, true, true, false, false, false, false, false] rfl rfl (by kernel_rfl) (fun _ _ _ h => h) (yieldsIf_load_mid (by rfl) 38 (.tmp 6) rfl B 0 (by rfl) cs4 _ (fun w' h' => h'.2) Tryz.underlying38 rfl HZL.out) hHeld ?_ ?_
        rotate_left
        · simp only [Act.put, List.setIfInBounds_toArray, List.set_cons_zero, List.set_cons_succ, i64_w, i32_w]
          rfl
        refine one_ (i := 6) (N := some 69) #[true, true, true, true, true, true, true, false, false, false, false] rfl rfl (by kernel_rfl) (by decide) (fun K hK => ?_)
        refine buildOne_ (by rfl) 79 38 (.tmp 68) rfl cs4 rfl (.agg noCells) 25 328 Tryz.underlying79 infoPkt rfl HCL.out (by decide) (by decide) ?_
        refine hK.out _ _ ⟨(World.cell?_alloc_past _ _ _ (blk_lt HH9.out)).trans x0, (fun i u hu => (World.cell?_alloc_past _ _ _ HBL.out).trans (xb i u hu))⟩ (fun hHeld => ?_)
        clear hK K
        refine norm_ (a' := ?_) ?_ ?_
        rotate_left
        · show Act.put _ (some 69) _ = _
          simp only [Act.put, List.setIfInBounds_toArray, List.set_cons_zero, List.set_cons_succ, i64_w, i32_w]
          rfl
        refine last_ (i := 7) (N := some 70) #[true, true, true, true, true, true, true, true, false, false, false] rfl rfl (by kernel_rfl) (by decide) (fun K hK => ?_)
        refine Kd.R_append_step kPkt (w0 := W9.drew) (W := W9.drew) z (by rfl) (.tmp 67) (.tmp 69) 79 38 (.agg noCells) 328 (by rfl) Tryz.underlying79 infoPkt (by rfl) (by decide) (by omega) _ h1.l r.1.p cs4 (fun k => k ≠ nb) (fun k => wr.heap.size ≤ k) (by rfl) (by rfl) ?hp ?okp ?fresh ?HO ?HB ?hbase ?hl ?_
        case hp => exact HM9.out
        case okp => exact fun k hk => ⟨fun e => by have := HNB.out.2; omega, fun e => by obtain ⟨_, ho⟩ := Kd.R_own HHW.out; have := own_lt ho k e.symm; omega⟩
        case fresh => exact fun k hk e => by have := HNB.out.1; omega
        case HO => exact HR9.out
        case HB => exact Below.refl _ _
        case hbase => exact HZ9.out
        case hl => have := HBND.out; omega
        intro v1 w11 hq hbl hg hat
        obtain ⟨A1, c1, hev⟩ := Kd.R_slice hq
        obtain ⟨N1, hN1⟩ : ∃ N1, N1 = (h1.l ++ [r.1.p]).length := ⟨_, rfl⟩
        rw [← hN1] at hev
        subst hev
        have HN1 := Aside0.mk hN1
        clear hN1
        have hH11 := blk_grown (w := W9.drew) HH9.out hg (Kd.R_ne HR9.out HH9.out (by decide))
        have HG11 := Aside0.mk (And.intro hq (And.intro hbl (And.intro hg hH11)))
        have f11 := blk_frozen hH11 0
        have c11 := blk_cell hH11 0
        clear hq hbl hg hat hH11
        refine hK.out _ _ ?_
        clear hK K
        refine norm_ (a' := ?_) ?_ ?_
        rotate_left
        · show Act.put _ (some 70) _ = _
          simp only [Act.put, List.setIfInBounds_toArray, List.set_cons_zero, List.set_cons_succ, i64_w, i32_w]
          rfl
        refine pure_ (i := 8) (N := some 71) (v := ?_) (a' := ?_) #[true, true, true, true, true, true, true, true, true, false, false] rfl rfl (by kernel_rfl) (fun _ _ _ h => h) (Or.inl ⟨by rfl, ?_⟩) ?_ ?_
        rotate_left
        · intro w'
          go_simp
          with_reducible rfl
        rotate_left
        · simp only [Act.put, List.setIfInBounds_toArray, List.set_cons_zero, List.set_cons_succ, i64_w, i32_w]
          rfl
        refine pure_ (i := 9) (N := some 72) (v := ?_) (a' := ?_) #[true, true, true, true, true, true, true, true, true, true, false] rfl rfl (by kernel_rfl) (fun _ _ _ h => h) (Or.inl ⟨by rfl, ?_⟩) ?_ ?_
        rotate_left
        · intro w'
          go_simp
          with_reducible rfl
        rotate_left
        · simp only [Act.put, List.setIfInBounds_toArray, List.set_cons_zero, List.set_cons_succ, i64_w, i32_w]
          rfl
        refine last_ (i := 10) (N := none) #[true, true, true, true, true, true, true, true, true, true, true] rfl rfl (by kernel_rfl) (by decide) (fun K hK => ?_)
        refine skip_ (w1 := ?_) (by rfl) rfl ?_ ?_
        rotate_left
        · go_simp
          rfl
        refine hK.out _ _ ?_
        clear hK K
        refine done_ (by kernel_rfl) ?_
        have hto := HT.out
        have HA12 := Aside0.mk (show HrAt w0 w base F H z nb most r.2 ⟨h1.l ++ [r.1.p], r.1.f⟩ (w11.setCell ⟨H, 0, none⟩ (.slice A1 N1 c1)) from
          HrAt.grow HLO.out HF9.out (by rw [← hto]; exact HH9.out) HR9.out HFr9.out HBL9.out HNZ.out.2 (by
            have h1 := HBN.out
            rw [← HOK.out] at h1
            simp only [if_true] at h1
            exact ⟨by omega, h1.2.1⟩) (Nat.le_trans HZW.out.1 HZW.out.2.1) HG11.out.1 HG11.out.2.2.1 N1 HN1.out rfl)
        have HLS := Aside0.mk (show n = -1 → r.2.b.length < q1 by
          have h1 := HBN.out.2.2 HOK.out.symm
          have h2 := HKQ.out.2.1
          intro e
          have h3 := h2 e
          omega)
        clear hHeld hto x0 xb c11 f11
        go_wp2_with fail
        go_roundg q1
        case measure => exact Nat.lt_succ_self _
        case rel => exact ⟨k + 1, r.2, ⟨h1.l ++ [r.1.p], r.1.f⟩, by first | rfl | rw [ek], by have := HKQ.out.1; omega, HLS.out, HA12, HREQ⟩
end Go.Proofs.YthlbcgaegaoanaaGreatDoor.Cr

namespace Go.Proofs.YthlbcgaegaoanaaGreatDoor.Cr
open Go Go.RowKit Go.Proofs.YthlbcgaegaoanaaGreatDoorW.PrintWords Go.Proofs.YthlbcgaegaoanaaGreatDoorW.PrintLast Go.Proofs.YthlbcgaegaoanaaGreatDoorW.PrintMore Go.Proofs.YthlbcgaegaoanaaGreatDoor.Kinds Go.Proofs.YthlbcgaegaoanaaGreatDoor.Utf Go.Proofs.YthlbcgaegaoanaaGreatDoor.Chk Go.Proofs.YthlbcgaegaoanaaGreatDoor.Rdr
set_option linter.unusedVariables false
set_option linter.unusedSimpArgs false
attribute [local go_sem high] eqFlt
set_option maxRecDepth 100000 in
set_option maxHeartbeats 4000000 in
theorem sameHd_any (l : List Pkt) (hl : l.length ≤ 1000000) (v1 v2 : Value) (t1 t2 : Int) (w : World) (H O b1 b2 : Nat) (ok1 ok2 : Nat → Prop)
    (hH : w.heap[H]? = some (.cells #[v1, .int .i64 t1, .int .i64 t2, .bool false] 87 (0, 0))) (hO : w.heap[O]? = some (.cells #[v2, .int .i64 t1, .int .i64 t2, .bool false] 87 (0, 0)))
    (h1 : (kOf w).R 38 w b1 ok1 v1 l) (h2 : (kOf w).R 38 w b2 ok2 v2 l) :
    Calls Tryz.prog 43 #[.pointer (some ⟨H, 0, none⟩), .pointer (some ⟨O, 0, none⟩)] w fun e w' => e = .returned (.bool true) ∧ Below w.heap.size w w' := by
  obtain ⟨A1, c1, hv1⟩ := Kd.R_slice h1
  obtain ⟨A2, c2, hv2⟩ := Kd.R_slice h2
  subst hv1 hv2
  have HR1 := Aside0.mk h1
  have HR2 := Aside0.mk h2
  have HL := Aside0.mk hl
  have HHO := Aside0.mk (And.intro hH hO)
  have x0 : w.cell? ⟨H, 0, none⟩ = some (.slice A1 l.length c1) := blk_cell hH 0
  have x1 : w.cell? ⟨H, 1, none⟩ = some (.int .i64 t1) := blk_cell hH 1
  have x2 : w.cell? ⟨H, 2, none⟩ = some (.int .i64 t2) := blk_cell hH 2
  have x3 : w.cell? ⟨H, 3, none⟩ = some (.bool false) := blk_cell hH 3
  have y0 : w.cell? ⟨O, 0, none⟩ = some (.slice A2 l.length c2) := blk_cell hO 0
  have y1 : w.cell? ⟨O, 1, none⟩ = some (.int .i64 t1) := blk_cell hO 1
  have y2 : w.cell? ⟨O, 2, none⟩ = some (.int .i64 t2) := blk_cell hO 2
  have y3 : w.cell? ⟨O, 3, none⟩ = some (.bool false) := blk_cell hO 3
  have tl : ((l.length : Int) != (l.length : Int)) = false := by simp
  have tt1 : (t1 == t1) = true := by simp
  have tt2 : (t2 == t2) = true := by simp
  clear h1 h2 hl hH hO
  go_enter Tryz.func43, Tryz.ntmps43
  go_upto_region 1 with fail
  go_quiet (fail)
  go_wp2_with fail
  have HB0 := Aside0.mk (show Below w.heap.size w w.drew from below_drew (Below.refl _ _))
  clear x0 x1 x2 x3 y0 y1 y2 y3
  go_loopg [5] l.length (fun q i wr => ∃ k : Nat, k + q = l.length ∧ i = .int .i64 (k : Int) ∧ Aside0 (Below w.heap.size w wr))
  case atStart => exact ⟨0, by omega, rfl, by first | exact HB0 | exact ⟨by repeat (first | exact Below.refl _ _ | apply below_drew | apply pw_below_drewN)⟩⟩
  case round =>
    obtain ⟨k, hkq, rfl, HB⟩ := hrel
    have hgH := (HB.out.block _ (blk_lt HHO.out.1)).trans HHO.out.1
    have hgO := (HB.out.block _ (blk_lt HHO.out.2)).trans HHO.out.2
    have x0 : wr.cell? ⟨H, 0, none⟩ = some (.slice A1 l.length c1) := blk_cell hgH 0
    have y0 : wr.cell? ⟨O, 0, none⟩ = some (.slice A2 l.length c2) := blk_cell hgO 0
    clear hgH hgO
    rcases Nat.lt_or_ge k l.length with hk | hk
    · have t0 : decide ((k : Int) < (l.length : Int)) = true := decide_eq_true (by omega)
      have hkl := HL.out
      have ek : wrap64 ((k : Int) + 1) = (k : Int) + 1 := by unfold wrap64; omega
      obtain ⟨q1, rfl⟩ : ∃ q1, gk = q1 + 1 := ⟨gk - 1, by omega⟩
      have hp1 := Kd.R_below HR1.out HB.out
      have hp2 := Kd.R_below HR2.out HB.out
      obtain ⟨g1, n1', hx1, _⟩ := Kd.R_form hp1 (by omega)
      obtain ⟨g2, n2', hx2, _⟩ := Kd.R_form hp2 (by omega)
      injection hx1 with a1 a2 a3
      injection hx2 with a4 a5 a6
      subst a1 a4
      first | subst a2 | subst a3
      first | subst a5 | subst a6
      obtain ⟨cs1, _, hM1, hc1, _⟩ := Kd.R_elem hp1 noPkt (k : Int) (by omega) (by omega)
      obtain ⟨cs2, _, hM2, hc2, _⟩ := Kd.R_elem hp2 noPkt (k : Int) (by omega) (by omega)
      simp only [Int.toNat_natCast] at hM1 hc1 hM2 hc2
      have hK1 : kPkt.K w (l.getD k noPkt) cs1 := hM1
      have hK2 : kPkt.K w (l.getD k noPkt) cs2 := hM2
      have HL1 := Aside0.mk (pkt_szL hK1)
      have HL2 := Aside0.mk (pkt_szL hK2)
      have HSM := Aside0.mk (same_any (l.getD k noPkt) cs1 cs2 wr.drew (kPkt.K_below (below_drew HB.out) hK1) (kPkt.K_below (below_drew HB.out) hK2))
      have HC12 := Aside0.mk (show wr.rangeAt g1 (k * 25) cs1 ∧ wr.rangeAt g2 (k * 25) cs2 from ⟨hc1, hc2⟩)
      have HKQ := Aside0.mk hkq
      have hki : (k : Int) < (l.length : Int) := by omega
      have hk0 : (0 : Int) ≤ (k : Int) := by omega
      clear hM1 hM2 hK1 hK2 hp1 hp2 hc1 hc2 hkq hk hkl
      go_upto_region 6 with fail
      have hc1 := HC12.out.1
      have hc2 := HC12.out.2
      refine start_ (n := 16) (S := fun w' => w'.cell? ⟨H, 0, none⟩ = some (.slice (some ⟨g1, 0, none⟩) l.length c1) ∧ w'.cell? ⟨O, 0, none⟩ = some (.slice (some ⟨g2, 0, none⟩) l.length c2) ∧ w'.rangeAt g1 (k * 25) cs1 ∧ w'.rangeAt g2 (k * 25) cs2) (ds := []) #[false, false, false, false, false, false, false, false, false, false, false, false, false, false, false, false] (by kernel_rfl) rfl rfl ⟨x0, y0, hc1, hc2⟩ (fun hHeld => ?_)
      refine pure_ (i := 0) (N := some 49) (v := ?_) (a' := ?_) #[true, false, false, false, false, false, false, false, false, false, false, false, false, false, false, false] rfl rfl (by kernel_rfl) (fun _ _ _ h => h) (Or.inl ⟨by rfl, ?_⟩) ?_ ?_
      rotate_left
      · intro w'
        go_simp
        with_reducible rfl
      rotate_left
      · simp only [Act.put, List.setIfInBounds_toArray, List.set_cons_zero, List.set_cons_succ, i64_w, i32_w]
        rfl
      refine pure_ (i := 1) (N := some 50) (v := ?_) (a' := ?_) #[true, true, false, false, false, false, false, false, false, false, false, false, false, false, false, false] rfl rfl (by kernel_rfl) (fun _ _ _ h => h) (Or.inl ⟨by rfl, ?_⟩) ?_ ?_
      rotate_left
      · intro w'
        go_simp
        with_reducible rfl
      rotate_left
      · simp only [Act.put, List.setIfInBounds_toArray, List.set_cons_zero, List.set_cons_succ, i64_w, i32_w]
        rfl
      refine pure_ (i := 2) (N := some 51) (v := ?_) (a' := ?_) #[true, true, true, false, false, false, false, false, false, false, false, false, false, false, false, false] rfl rfl (by kernel_rfl) (fun _ _ _ h => h) (Or.inl ⟨by rfl, ?_⟩) ?_ ?_
      rotate_left
      · intro w'
        go_simp
        with_reducible rfl
      rotate_left
      · simp only [Act.put, List.setIfInBounds_toArray, List.set_cons_zero, List.set_cons_succ, i64_w, i32_w]
        rfl
      refine pure_ (i := 4) (N := some 53) (v := ?_) (a' := ?_) #[true, true, true, false, true, false, false, false, false, false, false, false, false, false, false, false] rfl rfl (by kernel_rfl) (fun _ _ _ h => h) (Or.inl ⟨by rfl, ?_⟩) ?_ ?_
      rotate_left
      · intro w'
        go_simp
        with_reducible rfl
      rotate_left
      · simp only [Act.put, List.setIfInBounds_toArray, List.set_cons_zero, List.set_cons_succ, i64_w, i32_w]
        rfl
      refine pure_ (i := 7) (N := some 56) (v := ?_) (a' := ?_) #[true, true, true, false, true, false, false, true, false, false, false, false, false, false, false, false] rfl rfl (by kernel_rfl) (fun _ _ _ h => h) (Or.inl ⟨by rfl, ?_⟩) ?_ ?_
      rotate_left
      · intro w'
        go_simp
        with_reducible rfl
      rotate_left
      · simp only [Act.put, List.setIfInBounds_toArray, List.set_cons_zero, List.set_cons_succ, i64_w, i32_w]
        rfl
      refine pure_ (i := 8) (N := some 57) (v := ?_) (a' := ?_) #[true, true, true, false, true, false, false, true, true, false, false, false, false, false, false, false] rfl rfl (by kernel_rfl) (fun _ _ _ h => h) (Or.inl ⟨by rfl, ?_⟩) ?_ ?_
      rotate_left
      · intro w'
        go_simp
        with_reducible rfl
      rotate_left
      · simp only [Act.put, List.setIfInBounds_toArray, List.set_cons_zero, List.set_cons_succ, i64_w, i32_w]
        rfl
      refine pure_ (i := 9) (N := some 58) (v := ?_) (a' := ?_) #[true, true, true, false, true, false, false, true, true, true, false, false, false, false, false, false] rfl rfl (by kernel_rfl) (fun _ _ _ h => h) (Or.inl ⟨by rfl, ?_⟩) ?_ ?_
      rotate_left
      · intro w'
        go_simp
        with_reducible rfl
      rotate_left
      · simp only [Act.put, List.setIfInBounds_toArray, List.set_cons_zero, List.set_cons_succ, i64_w, i32_w]
        rfl
      refine pure_ (i := 11) (N := some 60) (v := ?_) (a' := ?_) #[true, true, true, false, true, false, false, true, true, true, false, true, false, false, false, false] rfl rfl (by kernel_rfl) (fun _ _ _ h => h) (Or.inl ⟨by rfl, ?_⟩) ?_ ?_
      rotate_left
      · intro w'
        go_simp
        with_reducible rfl
      rotate_left
      · simp only [Act.put, List.setIfInBounds_toArray, List.set_cons_zero, List.set_cons_succ, i64_w, i32_w]
        rfl
      refine take_ (i := 3) (N := some 52) (v := ?_) (a' := ?_) #[true, true, true, true, true, false, false, true, true, true, false, true, false, false, false, false] rfl rfl (by kernel_rfl) (fun _ _ _ h => h) (Or.inl ⟨by rfl, ?_⟩) hHeld ?_ ?_
      rotate_left
      · rintro w' ⟨s0, s1, s2, s3⟩
        go_simp
        with_reducible rfl
      rotate_left
      · simp only [Act.put, List.setIfInBounds_toArray, List.set_cons_zero, List.set_cons_succ, i64_w, i32_w]
        rfl
      refine pure_ (i := 5) (N := some 54) (v := ?_) (a' := ?_) #[true, true, true, true, true, true, false, true, true, true, false, true, false, false, false, false] rfl rfl (by kernel_rfl) (fun _ _ _ h => h) (Or.inl ⟨by rfl, ?_⟩) ?_ ?_
      rotate_left
      · intro w'
        go_simp
        with_reducible rfl
      rotate_left
      · simp only [Act.put, List.setIfInBounds_toArray, List.set_cons_zero, List.set_cons_succ, i64_w, i32_w]
        rfl
      refine take_ (i := 6) (N := some 55) (v := .agg cs1.toArray) (a' := ?_) #[true, true, true, true, true, true, true, true, true, true, false, true, false, false, false, false] rfl rfl (by kernel_rfl) (fun _ _ _ h => h) (yieldsIf_load_mid (by rfl) 38 (.tmp 54) rfl g1 (k * 25) (by rfl) cs1 _ (fun w' h' => h'.2.2.1) Tryz.underlying38 rfl HL1.out) hHeld ?_ ?_
      rotate_left
      · simp only [Act.put, List.setIfInBounds_toArray, List.set_cons_zero, List.set_cons_succ, i64_w, i32_w]
        rfl
      refine take_ (i := 10) (N := some 59) (v := ?_) (a' := ?_) #[true, true, true, true, true, true, true, true, true, true, true, true, false, false, false, false] rfl rfl (by kernel_rfl) (fun _ _ _ h => h) (Or.inl ⟨by rfl, ?_⟩) hHeld ?_ ?_
      rotate_left
      · rintro w' ⟨s0, s1, s2, s3⟩
        go_simp
        with_reducible rfl
      rotate_left
      · simp only [Act.put, List.setIfInBounds_toArray, List.set_cons_zero, List.set_cons_succ, i64_w, i32_w]
        rfl
      refine pure_ (i := 12) (N := some 61) (v := ?_) (a' := ?_) #[true, true, true, true, true, true, true, true, true, true, true, true, true, false, false, false] rfl rfl (by kernel_rfl) (fun _ _ _ h => h) (Or.inl ⟨by rfl, ?_⟩) ?_ ?_
      rotate_left
      · intro w'
        go_simp
        with_reducible rfl
      rotate_left
      · simp only [Act.put, List.setIfInBounds_toArray, List.set_cons_zero, List.set_cons_succ, i64_w, i32_w]
        rfl
      refine take_ (i := 13) (N := some 62) (v := .agg cs2.toArray) (a' := ?_) #[true, true, true, true, true, true, true, true, true, true, true, true, true, true, false, false] rfl rfl (by kernel_rfl) (fun _ _ _ h => h) (yieldsIf_load_mid (by rfl) 38 (.tmp 61) rfl g2 (k * 25) (by rfl) cs2 _ (fun w' h' => h'.2.2.2) Tryz.underlying38 rfl HL2.out) hHeld ?_ ?_
      rotate_left
      · simp only [Act.put, List.setIfInBounds_toArray, List.set_cons_zero, List.set_cons_succ, i64_w, i32_w]
        rfl
      refine one_ (i := 14) (N := some 63) #[true, true, true, true, true, true, true, true, true, true, true, true, true, true, true, false] rfl rfl (by kernel_rfl) (by decide) (fun K hK => ?_)
      refine goes_ Tryz.func26 (by kernel_rfl) rfl #[.agg cs1.toArray, .agg cs2.toArray] (by rfl) rfl rfl (by simp only [List.map_toArray, List.map_cons, List.map_nil]; rfl) ?_
      with_reducible refine (HSM.out).mono ?_
      rintro e w9 ⟨rfl, hb9⟩
      refine ⟨_, rfl, ?_⟩
      refine hK.out _ _ ⟨cell_keepK rfl hb9 _ _ x0, cell_keepK rfl hb9 _ _ y0, (fun i u hu => cell_keepK rfl hb9 _ _ (hc1 i u hu)), (fun i u hu => cell_keepK rfl hb9 _ _ (hc2 i u hu))⟩ (fun hHeld => ?_)
      clear hK K
      refine norm_ (a' := ?_) ?_ ?_
      rotate_left
      · show Act.put _ (some 63) _ = _
        simp only [Act.put, List.setIfInBounds_toArray, List.set_cons_zero, List.set_cons_succ, i64_w, i32_w]
        rfl
      refine pure_ (i := 15) (N := some 64) (v := ?_) (a' := ?_) #[true, true, true, true, true, true, true, true, true, true, true, true, true, true, true, true] rfl rfl (by kernel_rfl) (fun _ _ _ h => h) (Or.inl ⟨by rfl, ?_⟩) ?_ ?_
      rotate_left
      · intro w'
        go_simp
        with_reducible rfl
      rotate_left
      · simp only [Act.put, List.setIfInBounds_toArray, List.set_cons_zero, List.set_cons_succ, i64_w, i32_w]
        rfl
      refine done_ (by kernel_rfl) ?_
      have HZ9 := Aside0.mk (HB.out.trans (((below_drew (Below.refl wr.heap.size wr)).trans (hb9.mono (show wr.heap.size ≤ wr.drew.heap.size from Nat.le_refl _))).mono HB.out.size))
      clear hHeld hb9 hc1 hc2 HSM
      go_wp2_with fail
      go_roundg q1
      case measure => exact Nat.lt_succ_self _
      case rel => exact ⟨k + 1, by have := HKQ.out; omega, by rw [show (((k + 1 : Nat) : Int)) = (k : Int) + 1 by omega]; try rw [ek], HZ9⟩
    · have t0 : decide ((k : Int) < (l.length : Int)) = false := decide_eq_false (by omega)
      have t0n : decide (k < l.length) = false := decide_eq_false (by omega)
      clear hkq hk
      go_wp2
      go_ret
      exact ⟨rfl, HB.out⟩
end Go.Proofs.YthlbcgaegaoanaaGreatDoor.Cr

namespace Go.Proofs.YthlbcgaegaoanaaGreatDoor.Cr
open Go Go.RowKit Go.Proofs.YthlbcgaegaoanaaGreatDoorW.PrintWords Go.Proofs.YthlbcgaegaoanaaGreatDoorW.PrintLast Go.Proofs.YthlbcgaegaoanaaGreatDoorW.PrintMore Go.Proofs.YthlbcgaegaoanaaGreatDoor.Kinds Go.Proofs.YthlbcgaegaoanaaGreatDoor.Utf Go.Proofs.YthlbcgaegaoanaaGreatDoor.Chk Go.Proofs.YthlbcgaegaoanaaGreatDoor.Rdr
set_option linter.unusedVariables false
set_option linter.unusedSimpArgs false
structure K4 (w : World) (F : Nat) (s : FrS) (W : World) : Prop where
  fr : FrIs W w.heap.size F 100 s
  bel : Below w.heap.size w W
section
variable {w W W2 : World} {F : Nat} {s s2 : FrS}
theorem K4.alloc (h : K4 w F s W) (o : Obj) : K4 w F s (W.alloc o) := ⟨h.fr.below (below_alloc (Below.refl _ _) o), h.bel.alloc h.bel.size o⟩
theorem K4.below (h : K4 w F s W) (hb : Below W.heap.size W W2) : K4 w F s W2 := ⟨h.fr.below hb, h.bel.trans (hb.mono h.bel.size)⟩
theorem K4.fr' (h : K4 w F s W) (hf : FrIs W2 w.heap.size F 100 s2) (hz : Fr (fun k => k = F) W W2) : K4 w F s2 W2 := ⟨hf, hz.below h.bel (fun k e => by subst e; exact h.fr.ge) h.bel.size⟩
theorem K4.gl (h : K4 w F s W) (hg : Gl w) : Gl W := hg.below h.bel hg.sz h.bel.size
end
theorem put_len {w : World} {base F : Nat} {most : Int} {s : FrS} (h : FrIs w base F most s) (l : List Int) (A : Option Addr) (n c : Nat) (hn : n = l.length) (hr : (Kd.int .u8).C w A l.length l) (hb : Bytes l) (hlen : s.b.length + l.length ≤ 1099511627776) (s2 : FrS) (h2 : s.put l = s2) :
    Calls Tryz.prog 41 #[.pointer (some ⟨F, 0, none⟩), .slice A n c] w fun e w' => e = .returned (.tuple #[]) ∧ FrIs w' base F most s2 ∧ Fr (fun k => k = F) w w' := by
  subst hn h2
  exact put_any h l A c hr hb hlen
theorem nx_len {w : World} {base F : Nat} {most : Int} {s : FrS} (hg : Gl w) (h : FrIs w base F most s) (hlen : s.b.length ≤ 1099511627770) (r : FA × FrS) (hr : s.next most = r) :
    Calls Tryz.prog 46 #[.pointer (some ⟨F, 0, none⟩)] w fun e w' => NextAt w w' base F most e r := by
  subst hr
  exact frmNext_any hg h hlen
set_option maxRecDepth 100000 in
set_option maxHeartbeats 4000000 in
theorem known4_any {w : World} (hg : Gl w) : Calls Tryz.prog 36 #[] w fun e w' => e = .returned (.bool true) ∧ Below w.heap.size w w' := by
  have HG := Aside0.mk hg
  clear hg
  go_enter Tryz.func36, Tryz.ntmps36
  go_upto_region 4 with (go_at_call 40; (refine (frmNew_any 100 w).mono ?_); rintro e w1 ⟨F, rfl, hF, hB⟩; have H1 := Aside0.mk (show K4 w F FrS.new w1 from ⟨hF, hB⟩); clear hF hB)
  go_upto_region 5 with (go_at_call 41; (refine (put_len (H1.out.alloc _).fr [192] _ _ _ rfl (C_lit8 w1 [192] (by decide)) (lit_bytes (by decide)) (by decide) _ k4a).mono ?_); rintro e w2 ⟨rfl, hF, hZ⟩; have H2 := Aside0.mk ((H1.out.alloc _).fr' hF hZ); clear hF hZ)
  go_upto_region 6 with (first
    | (go_at_call 46; (refine (nx_len (H2.out.gl HG.out) H2.out.fr (by decide) _ k4b).mono ?_); rintro e w3 ⟨cs3, ev3, rfl, hM, hE, hF, hZ⟩; obtain rfl : ev3 = .nilIface := hE; have HM3 := Aside0.mk (pk_open hM); have H3 := Aside0.mk (H2.out.fr' hF hZ); clear hM hF hZ; dsimp only)
    | (refine wpList_store_row rfl 38 _ _ rfl w3.heap.size _ rfl rfl 38 _ (heap_alloc_new w3 (.cells noCells 38)) HM3.out.1 HM3.out.2.1 HM3.out.2.2.1 ?_))
  obtain ⟨W3, hW3⟩ : ∃ W : World, W = (w3.alloc (.cells noCells 38)).setRow w3.heap.size cs3.toArray := ⟨_, rfl⟩
  have HB3 := Aside0.mk (show K4 w F ⟨[192], 0, none⟩ W3 by have hn3 := pk_new w3 cs3; rw [← hW3] at hn3; exact H3.out.below hn3.2)
  refine wp_wld (w2 := W3) (by rw [hW3]; rfl) ?_
  clear hW3 H1 H2 H3 HM3
  go_upto_region 7 with (go_at_call 41; (refine (put_len (HB3.out.alloc _).fr [0, 192, 0, 224] _ _ _ rfl (C_lit8 W3 [0, 192, 0, 224] (by decide)) (lit_bytes (by decide)) (by decide) _ k4c).mono ?_); rintro e w4 ⟨rfl, hF, hZ⟩; have H4 := Aside0.mk ((HB3.out.alloc _).fr' hF hZ); clear hF hZ)
  go_upto_region 8 with (first
    | (go_at_call 46; (refine (nx_len (H4.out.gl HG.out) H4.out.fr (by decide) _ k4d).mono ?_); rintro e w5 ⟨cs5, ev5, rfl, hM, hE, hF, hZ⟩; obtain rfl : ev5 = .nilIface := hE; have HM5 := Aside0.mk (pk_open hM); have H5 := Aside0.mk (H4.out.fr' hF hZ); clear hM hF hZ; dsimp only)
    | (refine wpList_store_row rfl 38 _ _ rfl w5.heap.size _ rfl rfl 38 _ (heap_alloc_new w5 (.cells noCells 38)) HM5.out.1 HM5.out.2.1 HM5.out.2.2.1 ?_))
  obtain ⟨B, hB⟩ : ∃ B, B = w5.heap.size := ⟨_, rfl⟩
  obtain ⟨W5, hW5⟩ : ∃ W : World, W = (w5.alloc (.cells noCells 38)).setRow w5.heap.size cs5.toArray := ⟨_, rfl⟩
  have hn5 := pk_new w5 cs5
  rw [← hW5] at hn5
  have HB5 := Aside0.mk (H5.out.below hn5.2)
  have HP5 := Aside0.mk (show W5.heap[B]? = some (.cells cs5.toArray 38 (0, 0)) by rw [hB]; exact hn5.1)
  have HC5 := Aside0.mk (show cs5.toArray[0]? = some (.int .i64 12) from HM5.out.2.2.2)
  refine wp_wld (w2 := W5) (by rw [hW5]; rfl) ?_
  rw [← hB]
  clear hW5 hB hn5 HB3 H4 H5 HM5
  go_upto_region 9 with (first
    | (go_at_call 46; (refine (nx_len (HB5.out.gl HG.out) HB5.out.fr (by decide) _ k4e).mono ?_); rintro e w6 ⟨cs6, ev6, rfl, hM, hE, hF, hZ⟩; obtain rfl : ev6 = .nilIface := hE; have HM6 := Aside0.mk (pk_open hM); have H6 := Aside0.mk (HB5.out.fr' hF hZ); have HZ6 := Aside0.mk hZ; clear hM hF hZ; dsimp only)
    | (refine wpList_store_row rfl 38 _ _ rfl w6.heap.size _ rfl rfl 38 _ (heap_alloc_new w6 (.cells noCells 38)) HM6.out.1 HM6.out.2.1 HM6.out.2.2.1 ?_))
  obtain ⟨W6, hW6⟩ : ∃ W : World, W = (w6.alloc (.cells noCells 38)).setRow w6.heap.size cs6.toArray := ⟨_, rfl⟩
  have hn6 := pk_new w6 cs6
  rw [← hW6] at hn6
  have HB6 := Aside0.mk (H6.out.below hn6.2)
  have hne : B ≠ F := fun e => by
    obtain ⟨cells, hc⟩ := HB5.out.fr.self
    rw [← e, HP5.out] at hc
    injection hc with hc
    injection hc with _ hc
    exact absurd hc (by decide)
  have hp6 : W6.heap[B]? = some (.cells cs5.toArray 38 (0, 0)) := (hn6.2.block _ (Nat.lt_of_lt_of_le (blk_lt HP5.out) HZ6.out.size)).trans ((HZ6.out.block _ (blk_lt HP5.out) hne).trans HP5.out)
  have z0 : W6.cell? ⟨B, 0, none⟩ = some (.int .i64 12) := by rw [blk_cell hp6 0]; exact HC5.out
  refine wp_wld (w2 := W6) (by rw [hW6]; rfl) ?_
  clear hW6 hn6 HB5 H6 HM6 HZ6 hne hp6 HP5 HC5
  go_upto_region 11 with (go_at_call 44; (refine (held_any HB6.out.fr).mono ?_); rintro e w7 ⟨rfl, rfl⟩; simp only [List.length_cons, List.length_nil])
  go_upto_region 12 with (go_at_call 41; (refine (put_len (HB6.out.alloc _).fr [1, 7] _ _ _ rfl (C_lit8 W6 [1, 7] (by decide)) (lit_bytes (by decide)) (by decide) _ k4f).mono ?_); rintro e w8 ⟨rfl, hF, hZ⟩; have H8 := Aside0.mk ((HB6.out.alloc _).fr' hF hZ); clear hF hZ)
  go_upto_region 13 with (first
    | (go_at_call 46; (refine (nx_len (H8.out.gl HG.out) H8.out.fr (by decide) _ k4g).mono ?_); rintro e w9 ⟨cs9, ev9, rfl, hM, hE, hF, hZ⟩; have HE9 := Aside0.mk hE; have HM9 := Aside0.mk (pk_open hM); have H9 := Aside0.mk (H8.out.fr' hF hZ); clear hM hF hZ hE; dsimp only)
    | (refine wpList_store_row rfl 38 _ _ rfl w9.heap.size _ rfl rfl 38 _ (heap_alloc_new w9 (.cells noCells 38)) HM9.out.1 HM9.out.2.1 HM9.out.2.2.1 ?_))
  obtain ⟨W9, hW9⟩ : ∃ W : World, W = (w9.alloc (.cells noCells 38)).setRow w9.heap.size cs9.toArray := ⟨_, rfl⟩
  have hn9 := pk_new w9 cs9
  rw [← hW9] at hn9
  have HB9 := Aside0.mk (H9.out.below hn9.2)
  have HE9' := Aside0.mk (ev_below HE9.out hn9.2)
  refine wp_wld (w2 := W9) (by rw [hW9]; rfl) ?_
  clear hW9 hn9 HB6 H8 H9 HM9 HE9
  go_upto_region 14 with (go_at_call 78; (refine (told4_any HE9'.out (NZ.mk (by decide))).mono ?_); rintro e w10 ⟨rfl, hB⟩; have H10 := Aside0.mk (HB9.out.below hB); clear hB; simp only [toldP])
  obtain ⟨T, hT⟩ : ∃ T, T = w10.heap.size := ⟨_, rfl⟩
  obtain ⟨W10, hW10⟩ : ∃ W : World, W = w10.alloc (.cells #[.int .i64 6, .int .i64 15] 70) := ⟨_, rfl⟩
  have HT10 := Aside0.mk (show W10.heap[T]? = some (.cells #[.int .i64 6, .int .i64 15] 70 (0, 0)) by rw [hW10, hT]; exact heap_alloc_new w10 _)
  have HB10 := Aside0.mk (show K4 w F ⟨[], 4, some (6, 15)⟩ W10 by rw [hW10]; exact H10.out.alloc _)
  refine wp_wld (w2 := W10) (by rw [hW10]) ?_
  rw [← hT]
  clear hW10 hT H10 HB9 HE9'
  go_upto_region 15 with (go_at_call 41; (refine (put_len (HB10.out.alloc _).fr [192, 0] _ _ _ rfl (C_lit8 W10 [192, 0] (by decide)) (lit_bytes (by decide)) (by decide) _ k4h).mono ?_); rintro e w11 ⟨rfl, hF, hZ⟩; have H11 := Aside0.mk ((HB10.out.alloc _).fr' hF hZ); have HZ11 := Aside0.mk hZ; clear hF hZ)
  have hne : T ≠ F := fun e => by
    obtain ⟨cells, hc⟩ := HB10.out.fr.self
    rw [← e, HT10.out] at hc
    injection hc with hc
    injection hc with _ hc
    exact absurd hc (by decide)
  have ht11 : w11.heap[T]? = some (.cells #[.int .i64 6, .int .i64 15] 70 (0, 0)) := (HZ11.out.block _ (by have := blk_lt HT10.out; simp; omega) hne).trans ((heap_alloc_old _ _ (blk_lt HT10.out)).trans HT10.out)
  have x0 : w11.cell? ⟨T, 0, none⟩ = some (.int .i64 6) := blk_cell ht11 0
  have x1 : w11.cell? ⟨T, 1, none⟩ = some (.int .i64 15) := blk_cell ht11 1
  clear hne ht11 HZ11 HB10 HT10
  go_wp2_with (go_at_call 44; (refine (held_any H11.out.fr).mono ?_); rintro e w12 ⟨rfl, rfl⟩; simp only [List.length_nil])
  go_ret
  exact ⟨rfl, H11.out.bel⟩
end Go.Proofs.YthlbcgaegaoanaaGreatDoor.Cr

namespace Go.Proofs.YthlbcgaegaoanaaGreatDoor.Cr
open Go Go.RowKit Go.Proofs.YthlbcgaegaoanaaGreatDoorW.PrintWords Go.Proofs.YthlbcgaegaoanaaGreatDoorW.PrintLast Go.Proofs.YthlbcgaegaoanaaGreatDoorW.PrintMore Go.Proofs.YthlbcgaegaoanaaGreatDoor.Kinds Go.Proofs.YthlbcgaegaoanaaGreatDoor.Utf Go.Proofs.YthlbcgaegaoanaaGreatDoor.Chk Go.Proofs.YthlbcgaegaoanaaGreatDoor.Rdr
set_option linter.unusedVariables false
set_option linter.unusedSimpArgs false
theorem pktC_le {p : Pkt} {v : Int} (h : 0 ≤ pktC v p) : 0 ≤ v ∧ pktC v p ≤ v := by
  unfold pktC at *
  have h1 := txtsC_le _ h
  have h2 := addP_le (Int.natCast_nonneg _) h1.1
  have h3 := asksC_le _ h2.1
  have h4 := msgC_le h3.1
  have h5 := msgC_le h4.1
  have h6 := tadd_le (Int.natCast_nonneg _) h5.1
  have h7 := tadd_le (Int.natCast_nonneg _) h6.1
  have h8 := tadd_le (Int.natCast_nonneg _) h7.1
  omega
theorem pktsC_le : ∀ (l : List Pkt) {v : Int}, 0 ≤ pktsC v l → 0 ≤ v ∧ pktsC v l ≤ v
  | [], v, h => ⟨h, Int.le_refl _⟩
  | p :: l, v, h => by
    simp only [pktsC] at *
    have h1 := pktsC_le l h
    have h2 := pktC_le h1.1
    omega
theorem pktsC_all : ∀ (l : List Pkt) {v : Int}, 0 ≤ pktsC v l → ∀ p ∈ l, (p.asks.length : Int) ≤ v ∧ (p.filters.length : Int) ≤ v ∧ (p.codes.length : Int) ≤ v ∧ (p.msg.payload.length : Int) ≤ v
  | [], v, h, p, hp => by cases hp
  | q :: l, v, h, p, hp => by
    simp only [pktsC] at h
    have h1 := pktsC_le l h
    have h2 := pktC_le h1.1
    rcases List.mem_cons.1 hp with rfl | hp
    · exact few_sizes h1.1
    · have := pktsC_all l h p hp
      omega
theorem encE_short {p : Pkt} (h : (fldE p).length ≤ 268435455) : (encE p).length ≤ 268435465 := by
  have h1 := encE_len h
  have h2 := encL_small 5 (lenCl ((fldE p).length : Int))
  omega
def wantL (l : List Pkt) : List Pkt := l.filter (fun p => pchk p == 0)
theorem wantL_one {l : List Pkt} {k : Nat} (hk : k < l.length) : wantL (l.take (k + 1)) = wantL (l.take k) ++ (if pchk l[k] = 0 then [l[k]] else []) := by
  unfold wantL
  rw [List.take_succ_eq_append_getElem hk, List.filter_append]
  congr 1
  by_cases h : pchk l[k] = 0 <;> simp [h]
theorem wantL_len (l : List Pkt) : (wantL l).length ≤ l.length := List.length_filter_le _ _
structure WlAt (w : World) (base F H z : Nat) (wr : World) (v : Value) (nb : Nat) (m : List Pkt) (s : FrS) (h : HS) : Prop where
  fr : FrIs wr base F 268435455 s
  hd : HdIs wr z nb H h
  wa : (kOf w).R 38 wr z (fun k => k = nb) v m
  lt : nb < wr.heap.size
  ne : nb ≠ F ∧ nb ≠ H
  bel : Below w.heap.size w wr
  nz : NZ s.err
  wh : Wh m s h
  sz : z ≤ wr.heap.size
  len : s.b.length ≤ m.length * 268435465
section
variable {w wr w2 : World} {base F H z nb : Nat} {v : Value} {m : List Pkt} {s : FrS} {h : HS}
theorem WlAt.below (c : WlAt w base F H z wr v nb m s h) (hb : Below wr.heap.size wr w2) : WlAt w base F H z w2 v nb m s h :=
  ⟨c.fr.below hb, c.hd.below hb, Kd.R_below c.wa hb, Nat.lt_of_lt_of_le c.lt hb.size, c.ne, c.bel.trans (hb.mono c.bel.size), c.nz, c.wh, Nat.le_trans c.sz hb.size, c.len⟩
theorem WlAt.want (c : WlAt w base F H z wr v nb m s h) (hz : w.heap.size ≤ z) (hFH : F < z ∧ H < z) {p : Pkt} {v1 : Value} (hR : (kOf w).R 38 w2 z (fun k => k = nb ∨ wr.heap.size ≤ k) v1 (m ++ [p])) (hg : wr.grownBy w2 v.ownBlock) (hs : wr.heap.size ≤ w2.heap.size) (hbel : Below w.heap.size w w2) :
    (∀ b u xs, (Kd.int .u8).R 5 wr b (fun _ => True) u xs → (Kd.int .u8).R 5 w2 b (fun _ => True) u xs) ∧ ∃ nb', FrIs w2 base F 268435455 s ∧ HdIs w2 z nb' H h ∧ (kOf w).R 38 w2 z (fun k => k = nb') v1 (m ++ [p]) ∧ nb' < w2.heap.size ∧ (nb' ≠ F ∧ nb' ≠ H) := by
  have hf : Fr (fun k => some k = v.ownBlock) wr w2 := ⟨hg.os, hg.tape, hg.output, hg.size, fun k hk hn => hg.block k hk hn⟩
  have hty : ∀ k, k < wr.heap.size → some k = v.ownBlock → ∃ cells, wr.heap[k]? = some (.cells cells 38 (0, 0)) := fun k hk e => by
    obtain ⟨_, ho⟩ := Kd.R_own c.wa
    exact own_typed ho k e.symm
  obtain ⟨g1, n1, hx1, _⟩ := Kd.R_form hR (by simp)
  have hob : v1.ownBlock = some g1 := by rw [hx1]; rfl
  have hlt : g1 < w2.heap.size := by
    obtain ⟨_, ho⟩ := Kd.R_own hR
    exact own_lt ho g1 hob
  have hge : z ≤ g1 := by
    obtain ⟨_, ho⟩ := Kd.R_own hR
    exact own_base ho g1 hob
  have hgk := hR.1 g1 hob
  refine ⟨fun b u xs hb => Kd.R_mono (Kd.R_move (Kd.R_bound hb) (fun k hk => hf.block k hk.2.2.1 (fun e => by
      obtain ⟨cells, hc⟩ := hty k hk.2.2.1 e
      obtain ⟨q, hq, cells', hc'⟩ := hk.2.2.2
      rw [hc'] at hc; injection hc with hc; injection hc with _ hc
      have : q = 5 := by simpa [Kd.int, Kd.scalar] using hq
      exact absurd (this.symm.trans hc) (by decide)))) (fun _ _ => trivial), g1, c.fr.fr hf (fun k hk e => ?_), c.hd.frTo hf (fun k hk e => ?_) ?_, ⟨fun k hk => ?_, hR.2.imp_ (fun _ _ hp => hp)⟩, hlt, ?_⟩
  · obtain ⟨cells, hc⟩ := hty k hk e
    exact ⟨cells, _, hc, by decide, by decide, by decide⟩
  · refine ⟨fun e2 => ?_, .inr (c.wa.1 k e.symm)⟩
    obtain ⟨cells, hc⟩ := hty k hk e
    obtain ⟨A, cc, h1, _⟩ := c.hd.ex
    rw [← e2, hc] at h1
    injection h1 with h1
    injection h1 with _ h1
    exact absurd h1 (by decide)
  · rcases hgk with e | e
    · exact .inr (.inl e)
    · exact .inl e
  · rw [hob] at hk
    injection hk with hk
    exact hk.symm
  · omega
theorem WlAt.put (hz : w.heap.size ≤ z) (hlo : w.heap.size ≤ F ∧ F < z ∧ F ≠ H) {v1 : Value} {p : Pkt} (hp : Wr p) {w1 : World} (c : WlAt w base F H z wr v nb m s h) {nb' : Nat} (hd : HdIs w1 z nb' H h) (hwa : (kOf w).R 38 w1 z (fun k => k = nb') v1 (m ++ [p])) (hlt : nb' < w1.heap.size) (hne : nb' ≠ F ∧ nb' ≠ H) (hbel : Below w.heap.size w w1) (hs : z ≤ w1.heap.size)
    (hf : FrIs w2 base F 268435455 (s.put (encE p))) (hZ : Fr (fun k => k = F) w1 w2) : WlAt w base F H z w2 v1 nb' (m ++ [p]) (s.put (encE p)) h :=
  ⟨hf, hd.fr hZ (fun k hk e => by subst e; exact ⟨hlo.2.2, .inl hlo.2.1⟩), Kd.R_step hwa (fun k hk hl => hZ.block k hl (fun e => hne.1 ((show k = nb' from hk).symm.trans e))), Nat.lt_of_lt_of_le hlt hZ.size, hne, hZ.below hbel (fun k e => by subst e; exact hlo.1) hbel.size, FrS.nz_put c.nz _, c.wh.put hp, Nat.le_trans hs hZ.size, by
    have h1 := c.len
    have h2 := encE_short hp.2.1
    have h3 : (s.put (encE p)).b.length ≤ s.b.length + (encE p).length := by
      unfold FrS.put
      split
      · omega
      · simp
    rw [List.length_append, List.length_singleton, Nat.add_mul]
    omega⟩
theorem WlAt.heard (c : WlAt w base F H z wr v nb m s h) (hm : m.length ≤ 200) : HrAt w wr base F H z nb 268435455 s h wr :=
  ⟨c.fr, c.hd, Fr.refl _ _, c.bel, c.nz, by
    have h1 := c.wh.all c.fr.ok
    have h2 := c.len
    refine ⟨by omega, ?_⟩
    have : m.length * 268435465 ≤ 200 * 268435465 := Nat.mul_le_mul_right _ hm
    omega, c.sz⟩
theorem WlAt.after (c : WlAt w base F H z wr v nb m s h) (hh : HrAt w wr base F H z nb 268435455 (hearK 268435455 (s.b.length + 1) s h).2 (hearK 268435455 (s.b.length + 1) s h).1 w2) :
    WlAt w base F H z w2 v nb m (hearK 268435455 (s.b.length + 1) s h).2 (hearK 268435455 (s.b.length + 1) s h).1 :=
  have hw := c.wh.hear c.fr.ok (s.b.length + 1) (Nat.lt_succ_self _)
  ⟨hh.fr, hh.hd, Kd.R_step c.wa (fun k hk hl => hh.mv.block k hl (fun e => by
      have hk' : k = nb := hk
      rcases e with e | e | e
      · exact c.ne.1 (hk'.symm.trans e)
      · exact c.ne.2 (hk'.symm.trans e)
      · exact e.2 hk')), Nat.lt_of_lt_of_le c.lt hh.mv.size, c.ne, hh.bel, hh.nz, hw.2.2, hh.sz, by rw [hw.2.1]; exact Nat.zero_le _⟩
end
set_option maxRecDepth 100000 in
set_option maxHeartbeats 4000000 in
theorem whole_any {w : World} (hg : Gl w) (l : List Pkt) (A : Option Addr) (n c : Nat) (hn : n = l.length) (hlc : l.length ≤ c) (hC : kPkt.C w A l.length l) (hpf : ∀ p ∈ l, PFits p) (hpb : ∀ p ∈ l, PB p) (step : Int) :
    Calls Tryz.prog 11 #[.slice A n c, .int .i64 step] w fun e w' => e = .returned (.bool true) ∧ Below w.heap.size w w' := by
  subst hn
  have hl63 : l.length ≤ 9223372036854775807 := hC.2.1
  have HG := Aside0.mk hg
  have HC := Aside0.mk hC
  have HPF := Aside0.mk hpf
  have HPB := Aside0.mk hpb
  clear hg hC hpf hpb
  go_enter Tryz.func11, Tryz.ntmps11
  go_upto_region 3 with (go_at_call 36; (with_reducible refine (known4_any HG.out).mono ?_); rintro e w1 ⟨rfl, hB⟩; have HB1 := Aside0.mk hB; clear hB)
  go_upto_region 4 with (go_at_call 37; (with_reducible refine (many_any 100000 w1 (by decide) (by decide)).mono ?_); rintro e w2 ⟨rfl, hK, hB⟩; have HK2 := Aside0.mk hK; have HB2 := Aside0.mk (HB1.out.trans (hB.mono HB1.out.size)); clear hK hB)
  obtain ⟨v, hv⟩ : ∃ v, v = pktsC 100000 l := ⟨_, rfl⟩
  have HV := Aside0.mk hv
  clear hv
  go_upto_region 5 with (go_at_call 38; (with_reducible refine (cpkts_any HK2.out l A _ c rfl hl63 HPF.out HC.out HB2.out HB1.out.size).mono ?_); rintro e w3 ⟨rfl, hT⟩; rw [← HV.out] at hT; have HT3 := Aside0.mk hT; have HB3 := Aside0.mk (HB2.out.trans (hT.bel.mono HB1.out.size)); clear hT)
  by_cases hv : 0 ≤ v
  case neg =>
    have tv : decide (0 ≤ v) = false := decide_eq_false hv
    clear hv hl63 hlc
    go_wp2_with (go_at_call 39; (with_reducible refine (cok_any HT3.out.ct).mono ?_); rintro e w4 ⟨rfl, rfl⟩)
    go_ret
    exact ⟨rfl, HB3.out⟩
  have tv : decide (0 ≤ v) = true := decide_eq_true hv
  by_cases hlen : 200 < l.length
  · have t1 : decide ((200 : Int) < (l.length : Int)) = true := decide_eq_true (by omega)
    clear hv hl63 hlc hlen
    go_wp2_with (go_at_call 39; (with_reducible refine (cok_any HT3.out.ct).mono ?_); rintro e w4 ⟨rfl, rfl⟩)
    go_ret
    exact ⟨rfl, HB3.out⟩
  have t1 : decide ((200 : Int) < (l.length : Int)) = false := decide_eq_false (by omega)
  have HLL := Aside0.mk (show l.length ≤ 200 by omega)
  have HSZ := Aside0.mk (pktsC_all l (show 0 ≤ pktsC 100000 l by rw [← HV.out]; exact hv))
  clear hv hl63 hlc hlen
  go_upto_region 7 with (go_at_call 39; (with_reducible refine (cok_any HT3.out.ct).mono ?_); rintro e w4 ⟨rfl, rfl⟩)
  clear tv t1
  go_upto_region 8 with (go_at_call 40; (with_reducible refine (frmNew_any 268435455 w3).mono ?_); rintro e w4 ⟨F, rfl, hF, hB⟩; have HF4 := Aside0.mk hF; have HB4 := Aside0.mk (HB3.out.trans (hB.mono HB3.out.size)); have HS4 := Aside0.mk hB.size; clear hF hB)
  obtain ⟨base, hbase⟩ : ∃ base, base = w3.heap.size := ⟨_, rfl⟩
  have HF4' := Aside0.mk (show FrIs w4 base F 268435455 FrS.new by rw [hbase]; exact HF4.out)
  have HBS := Aside0.mk (show w.heap.size ≤ base ∧ w1.heap.size < base by
    rw [hbase]
    have h1 := blk_lt HK2.out.1
    have h2 := HT3.out.bel.size
    have h3 := HT3.out.fr.size
    exact ⟨HB3.out.size, by omega⟩)
  clear hbase HF4 HS4 HT3 HK2
  go_upto_region 12 with fail
  obtain ⟨H, hH⟩ : ∃ H, H = w4.heap.size := ⟨_, rfl⟩
  obtain ⟨W5, hW5⟩ : ∃ W : World, W = w4.alloc (.cells #[.slice none 0 0, .int .i64 0, .int .i64 0, .bool false] 87) := ⟨_, rfl⟩
  obtain ⟨z, hz⟩ : ∃ z, z = W5.heap.size := ⟨_, rfl⟩
  have HLO := Aside0.mk (show w.heap.size ≤ F ∧ w.heap.size ≤ H ∧ w.heap.size ≤ z ∧ F < z ∧ H < z ∧ F ≠ H by
    have h1 := HF4'.out.ge
    have h2 := HF4'.out.lt
    have h3 := HBS.out
    have h4 : W5.heap.size = w4.heap.size + 1 := by rw [hW5]; simp
    omega)
  have HA := Aside0.mk (show ∃ nb, WlAt w base F H z W5 (.slice none 0 0) nb [] FrS.new ⟨[], none⟩ from by
    have hal : Below w4.heap.size w4 W5 := by rw [hW5]; exact below_alloc (Below.refl _ _) _
    have h1 := HF4'.out.ge
    have h2 := HF4'.out.lt
    have h3 := HBS.out
    have h4 : W5.heap.size = w4.heap.size + 1 := by rw [hW5]; simp
    exact ⟨w1.heap.size, ⟨HF4'.out.below hal, ⟨none, 0, by rw [hW5, hH]; exact heap_alloc_new w4 _, Kd.R_nil _ _ _ _ _⟩, Kd.R_nil _ _ _ _ _, by omega, by omega, HB4.out.trans (hal.mono HB4.out.size), NZ.none, Wh.new, by rw [hz]; exact Nat.le_refl _, by simp [FrS.new]⟩⟩)
  refine wp_wld (w2 := W5) (by rw [hW5]) ?_
  rw [← hH]
  clear hH hW5 hz HF4' HB4 HB3 HB2 HB1
  go_wp2_with fail
  go_loopg [7, 9] l.length (fun q x i wr => ∃ (k nb : Nat) (s : FrS) (h : HS) (v0 : Value), v0 = x ∧ i = .int .i64 (k : Int) ∧ k + q = l.length ∧ Aside0 (WlAt w base F H z wr v0 nb (wantL (l.take k)) s h))
  case atStart =>
    obtain ⟨nb, ha⟩ := HA.out
    exact ⟨0, nb, FrS.new, ⟨[], none⟩, _, rfl, rfl, by omega, ⟨ha⟩⟩
  case round =>
    obtain ⟨k, nb, s, h, v0, rfl, rfl, hkq, HR⟩ := hrel
    clear HA
    rcases Nat.lt_or_ge k l.length with hk | hk
    · have t0 : decide ((k : Int) < (l.length : Int)) = true := decide_eq_true (by omega)
      have ek : wrap64 ((k : Int) + 1) = (k : Int) + 1 := by have := HLL.out; unfold wrap64; omega
      obtain ⟨q1, rfl⟩ : ∃ q1, gk = q1 + 1 := ⟨gk - 1, by omega⟩
      obtain ⟨ad1, cs1, hA1, hK1, cx⟩ := pkt_at HC.out k hk
      subst hA1
      have HCL := Aside0.mk (show ∀ W, Below w.heap.size w W → ∀ j u, cs1[j]? = some u → W.cell? ((ad1.add (k * 25)).add j) = some u from fun W hb j u hj => cell_keepK rfl hb _ _ (cx j u hj))
      have HCW := Aside0.mk (HCL.out wr HR.out.bel)
      have HK1 := Aside0.mk hK1
      have HPZ := Aside0.mk (pkt_szL hK1)
      have HL25 := Aside0.mk (show cs1.length = 25 from kPkt.K_len hK1)
      have HQ := Aside0.mk (show l[k].asks.length ≤ 1099511627776 ∧ l[k].filters.length ≤ 1099511627776 ∧ l[k].codes.length ≤ 1099511627776 ∧ l[k].msg.payload.length ≤ 1099511627776 from by have := HSZ.out l[k] (List.getElem_mem hk); omega)
      have HWL := Aside0.mk (wantL_one hk)
      have HPB1 := Aside0.mk (HPB.out l[k] (List.getElem_mem hk))
      have HML := Aside0.mk (show (wantL (l.take k)).length ≤ k ∧ k < 200 by
        have h1 := wantL_len (l.take k)
        have h2 := HLL.out
        rw [List.length_take] at h1
        omega)
      clear cx hK1
      generalize l[k] = p at *
      obtain ⟨m, hm⟩ : ∃ m, m = wantL (l.take k) := ⟨_, rfl⟩
      have HM := Aside0.mk hm
      have HRm := Aside0.mk (show WlAt w base F H z wr v0 nb m s h by rw [hm]; exact HR.out)
      obtain ⟨e0, he0⟩ : ∃ e0, e0 = pchk p := ⟨_, rfl⟩
      have HE := Aside0.mk he0
      obtain ⟨L, hL⟩ : ∃ L, L = (if pchk p = 0 then encE p else []) := ⟨_, rfl⟩
      have HL := Aside0.mk hL
      have hlt : ((k : Int) < (l.length : Int)) := by omega
      have h0 : (0 : Int) ≤ (k : Int) := by omega
      have HKQ := Aside0.mk hkq
      clear hkq hk hm he0 hL HR
      go_upto_region 16 with (first
        | (refine wpList_load_atF (by rfl) 38 (.tmp 40) rfl (ad1.add (k * 25)) rfl cs1 _ HCW.out Tryz.underlying38 rfl HPZ.out ?_)
        | (go_at_call 29; (with_reducible refine (encode_any (HG.out.below HRm.out.bel HG.out.sz HRm.out.bel.size) p cs1 (kPkt.K_below HRm.out.bel HK1.out) HQ.out.1 HQ.out.2.1 HQ.out.2.2.1 HQ.out.2.2.2).mono ?_); rintro e w8 ⟨v8, rfl, hR8, hB8⟩; rw [← HL.out] at hR8; rw [← HE.out]; obtain ⟨A8, c8, hv8, hc8, hC8⟩ := Kd.R_reads hR8; subst hv8; have HC8 := Aside0.mk hR8; have HR8 := Aside0.mk (HRm.out.below hB8); clear hR8 hB8 hc8 hC8; dsimp only))
      clear HCW HRm
      by_cases he : e0 = 0
      case neg =>
        have te : (e0 != 0) = true := by simp [he]
        have HN := Aside0.mk (show wantL (l.take (k + 1)) = m by rw [HWL.out, if_neg (by rw [← HE.out]; exact he), List.append_nil, ← HM.out])
        clear he
        go_wp2_with fail
        go_roundg q1
        case measure => exact Nat.lt_succ_self _
        case rel => exact ⟨k + 1, nb, s, h, _, rfl, by rw [show (((k + 1 : Nat) : Int)) = (k : Int) + 1 by omega]; try rw [ek], by have := HKQ.out; omega, ⟨by rw [HN.out]; exact HR8.out⟩⟩
      have HPC := Aside0.mk (show pchk p = 0 by rw [← HE.out]; exact he)
      have HN := Aside0.mk (show wantL (l.take (k + 1)) = m ++ [p] by rw [HWL.out, if_pos HPC.out, ← HM.out])
      have hLE : L = encE p := by rw [HL.out, if_pos HPC.out]
      have HWR := Aside0.mk (show Wr p from ⟨HPC.out, (len_bound (pchk_right HPC.out) HQ.out.1 HQ.out.2.1 HQ.out.2.2.1 HQ.out.2.2.2).2, HPB1.out⟩)
      have HBY := Aside0.mk (show Bytes L by rw [hLE]; exact encE_bytes (pchk_right HPC.out) HPB1.out)
      have HLE := Aside0.mk hLE
      have HCW := Aside0.mk (HCL.out w8 HR8.out.bel)
      have te : (e0 != 0) = false := by simp [he]
      have hml : m.length ≤ 200 := by have := HML.out; rw [← HM.out] at this; omega
      clear he hLE
      go_upto_region 18 with (first
        | (refine wpList_load_atF (by rfl) 38 (.tmp 50) rfl (ad1.add (k * 25)) rfl cs1 _ HCW.out Tryz.underlying38 rfl HPZ.out ?_)
        | (refine wpList_buildOneK rfl 79 38 _ rfl cs1 rfl (.agg noCells) 25 328 Tryz.underlying79 infoPkt rfl HL25.out (by decide) (by decide) ?_)
        | (at_builtin; go_loud (refine Kd.R_append (kOf w) (w0 := w8) (W := w8) z rfl (.tmp 47) (.tmp 52) 79 38 (.agg noCells) 328 rfl Tryz.underlying79 infoPkt rfl (show 0 < 25 by decide) (by omega) _ m p cs1 (fun k => k = nb ∨ w8.heap.size ≤ k) (fun _ => False) (by rfl) (by rfl) ?hp ?okp ?fresh ?HO (Below.refl _ _) ?hbs ?hl ?_)))
      case hp => exact HK1.out
      case fresh => exact fun k hk => .inr hk
      case HO => exact Kd.R_mono HR8.out.wa (fun k hk => .inl hk)
      case hbs => exact HR8.out.sz
      case hl => omega
      intro v1 w9 hR9 hb9 hg9 hat9
      have hlo := HLO.out
      have hbel9 : Below w.heap.size w w9 := HR8.out.bel.trans (hb9.mono hlo.2.2.1)
      obtain ⟨hbr, nb', f9, d9, a9, l9, n9⟩ := HR8.out.want hlo.2.2.1 ⟨hlo.2.2.2.1, hlo.2.2.2.2.1⟩ hR9 hg9 hg9.size hbel9
      obtain ⟨A9, c9, hv9, hcc9, hC9⟩ := Kd.R_reads (hbr _ _ _ HC8.out)
      injection hv9 with e1 e2 e3
      subst e1 e3
      have HPUT := Aside0.mk (put_any f9 L A8 c8 hC9 HBY.out (by
        have h1 := HR8.out.len
        have h2 := encE_short HWR.out.2.1
        rw [HLE.out]
        have h3 : m.length * 268435465 ≤ 200 * 268435465 := Nat.mul_le_mul_right _ hml
        omega))
      have HW9 := Aside0.mk (show ∀ w10, FrIs w10 base F 268435455 (s.put L) → Fr (fun k => k = F) w9 w10 → WlAt w base F H z w10 v1 nb' (m ++ [p]) (s.put (encE p)) h from fun w10 hf hZ =>
        WlAt.put hlo.2.2.1 ⟨hlo.1, hlo.2.2.2.1, hlo.2.2.2.2.2⟩ HWR.out HR8.out d9 a9 l9 n9 hbel9 (Nat.le_trans HR8.out.sz hg9.size) (by rw [← HLE.out]; exact hf) hZ)
      clear hlo hbel9 hbr f9 d9 a9 l9 n9 hcc9 hC9 hR9 hb9 hg9 hat9 e2
      go_upto_region 18 with fail
      go_upto_region 19 with (go_at_call 41; (with_reducible refine (HPUT.out).mono ?_); rintro e w10 ⟨rfl, hF, hZ⟩; have HR10 := Aside0.mk (HW9.out w10 hF hZ); clear hF hZ)
      clear HPUT HW9 HCW HR8 HC8 te
      obtain ⟨m2, hm2⟩ : ∃ m2, m2 = m ++ [p] := ⟨_, rfl⟩
      obtain ⟨s2, hs2⟩ : ∃ s2, s2 = s.put (encE p) := ⟨_, rfl⟩
      rw [← hm2, ← hs2] at HR10
      rw [← hm2] at HN
      have hm2l : m2.length ≤ 200 := by have := HML.out; rw [← HM.out] at this; rw [hm2, List.length_append, List.length_singleton]; omega
      have HH := Aside0.mk (hears_any HG.out (HR10.out.heard hm2l) ⟨HLO.out.1, HLO.out.2.1, HLO.out.2.2.1, HLO.out.2.2.2.1, HLO.out.2.2.2.2.1, HLO.out.2.2.2.2.2, HR10.out.lt⟩ (-1) (s2.b.length + 1) (.inr ⟨rfl, Nat.lt_succ_self _, by
        have h1 := HR10.out.len
        have h3 : m2.length * 268435465 ≤ 200 * 268435465 := Nat.mul_le_mul_right _ hm2l
        omega⟩))
      clear hml hm2l hm2 hs2
      by_cases hs : 0 < step
      case neg =>
        have ts : decide (step > 0) = false := decide_eq_false hs
        have ts2 : decide (0 < step) = false := decide_eq_false hs
        clear hs
        go_wp2_with fail
        go_roundg q1
        case measure => exact Nat.lt_succ_self _
        case rel => exact ⟨k + 1, nb', s2, h, _, rfl, by rw [show (((k + 1 : Nat) : Int)) = (k : Int) + 1 by omega]; try rw [ek], by have := HKQ.out; omega, ⟨by rw [HN.out]; exact HR10.out⟩⟩
      have ts : decide (step > 0) = true := decide_eq_true hs
      have ts2 : decide (0 < step) = true := decide_eq_true hs
      go_wp2_with (go_at_call 42; (with_reducible refine (HH.out).mono ?_); rintro e w11 ⟨rfl, hh⟩; have HR11 := Aside0.mk (HR10.out.after hh); clear hh)
      all_goals
        go_roundg q1
        case measure => exact Nat.lt_succ_self _
        case rel => first
          | exact ⟨k + 1, nb', _, _, _, rfl, by rw [show (((k + 1 : Nat) : Int)) = (k : Int) + 1 by omega]; try rw [ek], by have := HKQ.out; omega, ⟨by rw [HN.out]; exact HR11.out⟩⟩
          | exact ⟨k + 1, nb', s2, h, _, rfl, by rw [show (((k + 1 : Nat) : Int)) = (k : Int) + 1 by omega]; try rw [ek], by have := HKQ.out; omega, ⟨by rw [HN.out]; exact HR10.out⟩⟩
    · have t0 : decide ((k : Int) < (l.length : Int)) = false := decide_eq_false (by omega)
      have t0n : decide (k < l.length) = false := decide_eq_false (by omega)
      have hml : (wantL (l.take k)).length ≤ 200 := by
        have h1 := wantL_len (l.take k)
        have h2 := HLL.out
        rw [List.length_take] at h1
        omega
      obtain ⟨m, hm⟩ : ∃ m, m = wantL (l.take k) := ⟨_, rfl⟩
      rw [← hm] at HR hml
      have HH := Aside0.mk (hears_any HG.out (HR.out.heard hml) ⟨HLO.out.1, HLO.out.2.1, HLO.out.2.2.1, HLO.out.2.2.2.1, HLO.out.2.2.2.2.1, HLO.out.2.2.2.2.2, HR.out.lt⟩ (-1) (s.b.length + 1) (.inr ⟨rfl, Nat.lt_succ_self _, by
        have h1 := HR.out.len
        have h3 : m.length * 268435465 ≤ 200 * 268435465 := Nat.mul_le_mul_right _ hml
        omega⟩))
      have HW := Aside0.mk (HR.out.wh.hear HR.out.fr.ok (s.b.length + 1) (Nat.lt_succ_self _))
      have HML := Aside0.mk hml
      clear hkq hk hml hm
      go_upto_region 22 with (go_at_call 42; (with_reducible refine (HH.out).mono ?_); rintro e w11 ⟨rfl, hh⟩; have HR11 := Aside0.mk (HR.out.after hh); clear hh)
      obtain ⟨s3, hs3⟩ : ∃ s3, s3 = (hearK 268435455 (s.b.length + 1) s h).2 := ⟨_, rfl⟩
      have HS3 := Aside0.mk (show s3.b.length = 0 by rw [hs3, HW.out.2.1]; rfl)
      rw [HW.out.1, ← hs3] at HR11
      obtain ⟨A0, c0, hv0⟩ := Kd.R_slice HR11.out.wa
      subst hv0
      obtain ⟨Ah, ch, hH, hRh⟩ := HR11.out.hd.ex
      have hal : Below w11.heap.size w11 (w11.alloc (.cells #[.slice A0 m.length c0, .int .i64 0, .int .i64 0, .bool false] 87)) := below_alloc (Below.refl _ _) _
      have HSM := Aside0.mk (sameHd_any m (by have := HML.out; omega) (.slice Ah m.length ch) (.slice A0 m.length c0) 0 0 (w11.alloc (.cells #[.slice A0 m.length c0, .int .i64 0, .int .i64 0, .bool false] 87)) H w11.heap.size z z _ _ ((hal.block _ (blk_lt hH)).trans hH) (heap_alloc_new w11 _) (Kd.R_toOf (Kd.R_below hRh hal)) (Kd.R_ofBelow (Kd.R_below HR11.out.wa hal) (HR11.out.bel.trans (hal.mono HR11.out.bel.size))))
      have HF12 := Aside0.mk (HR11.out.below hal)
      clear hal hH hRh hs3 HH HR HW t0 t0n HR11
      go_wp2_with (first
        | (go_at_call 43; (with_reducible refine (HSM.out).mono ?_); rintro e w13 ⟨rfl, hB⟩; have HF13 := Aside0.mk (HF12.out.below hB); clear hB)
        | (go_at_call 44; (with_reducible refine (held_any HF13.out.fr).mono ?_); rintro e w14 ⟨rfl, rfl⟩; rw [HS3.out]))
      go_ret
      exact ⟨rfl, HF13.out.bel⟩
end Go.Proofs.YthlbcgaegaoanaaGreatDoor.Cr

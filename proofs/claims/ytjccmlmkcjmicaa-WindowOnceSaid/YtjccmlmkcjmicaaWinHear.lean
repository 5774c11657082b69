/- The walk of WindowOnce's closure 'hear': the messages of packets sent for the first time are laid behind a captured list. No statement of the program. -/
import Derived.Test.YtjccmlmkcjmicaaWinOp
import Derived.Test.YtjccmlmkcjmicaaWLast
namespace Go.Proofs.Ytjccmlmkcjmicaa.Win
open Go Go.RowKit Go.Maps Go.MapKept Go.ChangeMaps Go.Proofs.YtjccmlmkcjmicaaW.PrintWords Go.Proofs.YtjccmlmkcjmicaaW.PrintLast Go.Proofs.Ytjccmlmkcjmicaa.Kinds
set_option linter.unusedVariables false
set_option linter.unusedSimpArgs false

def heardB (p : Pkt) : Bool := (p.kind == 3) && !p.dup
def heard (ps : List Pkt) : List Msg := (ps.filter heardB).map (·.msg)
theorem heard_len (ps : List Pkt) : (heard ps).length ≤ ps.length := by unfold heard; rw [List.length_map]; exact List.length_filter_le _ _
theorem heard_take (ps : List Pkt) (k : Nat) (hk : k < ps.length) {p : Pkt} (hp : ps.getD k noPkt = p) : heard (ps.take (k + 1)) = heard (ps.take k) ++ if heardB p then [p.msg] else [] := by
  rw [List.getD_eq_getElem?_getD, List.getElem?_eq_getElem hk] at hp
  have hp' : ps[k] = p := hp
  unfold heard
  rw [List.take_succ_eq_append_getElem hk, hp', List.filter_append, List.map_append]
  congr 1
  cases h : heardB p <;> simp [h]

/-- where the closure's loop stands: the captured list's box, its row -/
structure HearAt (X wr : World) (base Bs : Nat) (avs okp : Nat → Prop) (vs1 : Value) (msgs : List Msg) : Prop where
  box : wr.heap[Bs]? = some (.cells #[vs1] 71 (0, 0))
  row : kMsg.R 64 wr base (fun j => avs j ∨ okp j ∨ X.heap.size ≤ j) vs1 msgs
  own : ∀ j, vs1.ownBlock = some j → avs j ∨ X.heap.size ≤ j
  fr : Fr (fun j => avs j ∨ j = Bs) X wr
theorem HearAt.bel {X wr : World} {base Bs : Nat} {avs okp : Nat → Prop} {vs1 : Value} {msgs : List Msg} (h : HearAt X wr base Bs avs okp vs1 msgs) (h1 : ∀ j, avs j → base ≤ j) (h2 : base ≤ Bs) (hb : base ≤ X.heap.size) : Below base X wr :=
  h.fr.below (Below.refl base X) (fun k hk => hk.elim (h1 k) (fun e => e ▸ h2)) hb
theorem HearAt.drewN {X wr : World} {base Bs : Nat} {avs okp : Nat → Prop} {vs1 : Value} {msgs : List Msg} (h : HearAt X wr base Bs avs okp vs1 msgs) (n : Nat) : HearAt X (wr.drewN n) base Bs avs okp vs1 msgs :=
  ⟨h.box, Kd.R_below h.row (pw_below_drewN (Below.refl _ _) n), h.own, h.fr.drewN n⟩
theorem HearAt.drew {X wr : World} {base Bs : Nat} {avs okp : Nat → Prop} {vs1 : Value} {msgs : List Msg} (h : HearAt X wr base Bs avs okp vs1 msgs) : HearAt X wr.drew base Bs avs okp vs1 msgs :=
  ⟨h.box, Kd.R_below h.row (below_drew (Below.refl _ _)), h.own, h.fr.drew⟩
theorem HearAt.push {X wr w5 : World} {base Bs : Nat} {avs okp : Nat → Prop} {vs1 v1 : Value} {msgs msgs' : List Msg} (h : HearAt X wr base Bs avs okp vs1 msgs) (hB : ¬ avs Bs ∧ Bs < X.heap.size)
    (hq : kMsg.R 64 w5 base (fun j => avs j ∨ okp j ∨ X.heap.size ≤ j) v1 msgs') (hg : wr.grownBy w5 vs1.ownBlock) (hat : v1.ownBlock = vs1.ownBlock ∨ ∃ b, v1.ownBlock = some b ∧ wr.heap.size ≤ b) : HearAt X (w5.setCell ⟨Bs, 0, none⟩ v1) base Bs avs okp v1 msgs' := by
  have hbx := blk_grown h.box hg (Kd.R_ne h.row h.box (by decide))
  refine ⟨?_, Kd.R_set hq hbx (by decide) 0 v1, fun j hj => ?_, (h.fr.grown hg (fun k hk e => ?_)).setCell (fun _ => .inr rfl) _⟩
  · rw [blk_set hbx 0 v1]; rfl
  · rcases hat with hat | ⟨b, hb, hl⟩
    · exact h.own j (hat ▸ hj)
    · rw [hb] at hj; injection hj with hj; subst hj; exact .inr (Nat.le_trans h.fr.size hl)
  · rcases h.own k e with h1 | h1
    · exact .inl h1
    · omega

/-- a packet of the call's own, at its place -/
theorem pkt_own {w : World} {base g c : Nat} {ok : Nat → Prop} {n : Nat} {ps : List Pkt} (h : kPkt.R 75 w base ok (.slice (some ⟨g, 0, none⟩) n c) ps) (k : Nat) (hk : k < n) : ∃ Am nm,
    w.cell? ⟨g, k * 25, none⟩ = some (.int .i64 (ps.getD k noPkt).kind) ∧ w.cell? ⟨g, k * 25 + 16, none⟩ = some (.bool (ps.getD k noPkt).dup) ∧ w.cell? ⟨g, k * 25 + 17, none⟩ = some (.string (ps.getD k noPkt).msg.topic) ∧
    w.cell? ⟨g, k * 25 + 18, none⟩ = some (.slice Am (ps.getD k noPkt).msg.payload.length nm) ∧ w.cell? ⟨g, k * 25 + 19, none⟩ = some (.int .i64 (ps.getD k noPkt).msg.qos) ∧ w.cell? ⟨g, k * 25 + 20, none⟩ = some (.bool (ps.getD k noPkt).msg.retain) ∧
    w.cell? ⟨g, k * 25 + 21, none⟩ = some (.int .i64 (ps.getD k noPkt).id) ∧
    kMsg.M w base (fun j => ok j ∧ j ≠ g) (ps.getD k noPkt).msg [.string (ps.getD k noPkt).msg.topic, .slice Am (ps.getD k noPkt).msg.payload.length nm, .int .i64 (ps.getD k noPkt).msg.qos, .bool (ps.getD k noPkt).msg.retain] := by
  obtain ⟨cs, hcl, hM, hcc, hf⟩ := Kd.R_elem h noPkt (k : Int) (by omega) (by omega)
  simp only [Int.toNat_natCast] at hM hcc hf
  obtain ⟨vw, vp, vm, va, vc, vf, rfl, hw, hp, hm, ha, hc, hff⟩ := pkt_M hM
  obtain ⟨Am, nm, rfl⟩ := Kd.R_slice hm
  exact ⟨Am, nm, hcc 0 _ rfl, hcc 16 _ rfl, hcc 17 _ rfl, hcc 18 _ rfl, hcc 19 _ rfl, hcc 20 _ rfl, hcc 21 _ rfl, msg_M_mk hm⟩

set_option maxRecDepth 100000 in
set_option maxHeartbeats 4000000 in
theorem hear_any {X : World} {base Bs : Nat} {avs okp : Nat → Prop} {vs v : Value} {sent : List Msg} {ps : List Pkt} (hbase : base ≤ X.heap.size) (hbox : X.heap[Bs]? = some (.cells #[vs] 71 (0, 0))) (hs : kMsg.R 64 X base avs vs sent) (hp : kPkt.R 75 X base okp v ps)
    (hav : ∀ j, avs j → base ≤ j) (hBs : base ≤ Bs) (hdis : ∀ j, okp j → ¬ avs j) (hlt : ∀ j, okp j → j < X.heap.size) (hB1 : ¬ avs Bs) (hB2 : ¬ okp Bs) (hlen : sent.length + ps.length ≤ 1099511627776) :
    Calls Try.prog 30 #[v, .pointer (some ⟨Bs, 0, none⟩)] X fun e w' => e = .returned (.tuple #[]) ∧ ∃ vs1, HearAt X w' base Bs avs okp vs1 (sent ++ heard ps) := by
  have H0 := Aside0.mk (show HearAt X X base Bs avs okp vs (sent ++ heard (ps.take 0)) from ⟨hbox, by rw [List.take_zero]; show kMsg.R _ _ _ _ _ (sent ++ []); rw [List.append_nil]; exact Kd.R_mono hs (fun j hj => .inl hj), fun j hj => .inl (hs.1 j hj), Fr.refl _ X⟩)
  have HP := Aside0.mk hp
  have HAV := Aside0.mk (And.intro hav hBs)
  have HD := Aside0.mk hdis
  have HL := Aside0.mk hlt
  have HBn := Aside0.mk (And.intro hB1 (blk_lt hbox))
  have HB2 := Aside0.mk hB2
  have HLN := Aside0.mk hlen
  have hpl : ps.length ≤ 1099511627776 := by omega
  obtain ⟨Ap, cp, hv⟩ := Kd.R_slice hp
  subst hv
  clear hbox hs hp hav hBs hdis hlt hB1 hB2 hlen
  go_enter Try.func30, Try.ntmps30
  go_wp2_with fail
  go_loopg [3] ps.length (fun q' i wr => ∃ (k : Nat) (vs1 : Value), k + q' = ps.length ∧ i = .int .i64 (k : Int) ∧ Aside0 (HearAt X wr base Bs avs okp vs1 (sent ++ heard (ps.take k))))
  case atStart => exact ⟨0, vs, by omega, rfl, H0⟩
  case round =>
    clear H0
    obtain ⟨k, vs1, hk, rfl, H⟩ := hrel
    have HK := Aside0.mk hk
    clear hk
    by_cases hlt : k < ps.length
    · have hk1 : (k : Int) < ps.length := by omega
      have hk0 : (0 : Int) ≤ (k : Int) := by omega
      obtain ⟨g, c, hgv, hgb, hgl, gcs, hgc⟩ := Kd.R_form HP.out (by omega)
      injection hgv with hA hn hcap
      subst hA hcap
      have hgo : okp g := HP.out.1 g (by simp [Value.ownBlock])
      have hR := R_fr HP.out H.out.fr (fun j hj hn => hn.elim (HD.out j hj) (fun e => HB2.out (e ▸ hj)))
      obtain ⟨Am, nm, f0, f16, fm0, fm1, fm2, fm3, _, hM⟩ := pkt_own hR k hlt
      have hgw := (H.out.fr.block g hgl (fun h => h.elim (HD.out g hgo) (fun e => HB2.out (e ▸ hgo)))).trans hgc
      obtain ⟨p, hp⟩ : ∃ p, ps.getD k noPkt = p := ⟨_, rfl⟩
      have hh := heard_take ps k hlt hp
      rw [hp] at f0 f16 fm0 fm1 fm2 fm3 hM
      have HE := Aside0.mk hM
      have HH := Aside0.mk hh
      have HKL := Aside0.mk hlt
      have HGW := Aside0.mk hgw
      have HGO := Aside0.mk (And.intro (HD.out g hgo) hgl)
      clear hR hM hh hp hgb hgl hgc hgo hlt hgw
      obtain ⟨pk, lv, cl, ka, ct, hwl, wl, hus, us, hpa, pa, pr, cd, dp, ⟨t, pp, q, rt⟩, pid, asks, cods, fils⟩ := p
      dsimp only at *
      cases hkd : (pk == 3)
      · have HHB : heardB ⟨pk, lv, cl, ka, ct, hwl, wl, hus, us, hpa, pa, pr, cd, dp, ⟨t, pp, q, rt⟩, pid, asks, cods, fils⟩ = false := by unfold heardB; dsimp only; rw [hkd]; rfl
        rw [HHB] at HH
        have H2 := Aside0.mk (show HearAt X wr base Bs avs okp vs1 (sent ++ heard (ps.take (k + 1))) from by rw [HH.out]; simpa using H.out)
        clear HHB HE
        go_wp2_with fail
        go_roundg (ps.length - (k + 1))
        case measure => have := HK.out; have := HKL.out; omega
        case rel => exact ⟨k + 1, _, by have := HKL.out; omega, by go_num, H2⟩
      · cases dp
        · have HHB : heardB ⟨pk, lv, cl, ka, ct, hwl, wl, hus, us, hpa, pa, pr, cd, false, ⟨t, pp, q, rt⟩, pid, asks, cods, fils⟩ = true := by unfold heardB; dsimp only; rw [hkd]; rfl
          rw [HHB] at HH
          have HW := Aside0.mk H.out.drew
          have HBX := Aside0.mk HW.out.box
          have HGL : Aside0 (g < wr.drew.heap.size) := ⟨blk_lt HGW.out⟩
          have hE2 : kMsg.M wr.drew base (fun j => okp j ∧ j ≠ g) ⟨t, pp, q, rt⟩ [.string t, .slice Am pp.length nm, .int .i64 q, .bool rt] := kMsg.M_move (fun _ _ => rfl) HE.out
          have bx : wr.cell? ⟨Bs, 0, none⟩ = some vs1 := blk_cell H.out.box 0
          clear HHB HE
          have HE := Aside0.mk hE2
          clear hE2
          go_upto_region 4 with fail
          refine start_ (n := 9) (S := fun w' => w'.cell? ⟨Bs, 0, none⟩ = some vs1 ∧ w'.cell? ⟨g, k * 25 + 17, none⟩ = some (.string t) ∧ w'.cell? ⟨g, k * 25 + 18, none⟩ = some (.slice Am pp.length nm) ∧ w'.cell? ⟨g, k * 25 + 19, none⟩ = some (.int .i64 q) ∧ w'.cell? ⟨g, k * 25 + 20, none⟩ = some (.bool rt)) (ds := [8]) #[false, false, false, false, false, false, false, false, false] (by kernel_rfl) rfl rfl ⟨bx, fm0, fm1, fm2, fm3⟩ (fun hHeld => ?_)
          refine pure_ (i := 1) (N := some 25) (v := ?_) (a' := ?_) #[false, true, false, false, false, false, false, false, false] rfl rfl (by kernel_rfl) (fun _ _ _ h => h) (Or.inl ⟨by rfl, ?_⟩) ?_ ?_
          rotate_left
          · intro w'
            go_simp
            with_reducible rfl
          rotate_left
          · simp only [Act.put, List.setIfInBounds_toArray, List.set_cons_zero, List.set_cons_succ, i64_w, i32_w]
            rfl
          refine pure_ (i := 2) (N := some 26) (v := ?_) (a' := ?_) #[false, true, true, false, false, false, false, false, false] rfl rfl (by kernel_rfl) (fun _ _ _ h => h) (Or.inl ⟨by rfl, ?_⟩) ?_ ?_
          rotate_left
          · intro w'
            go_simp
            with_reducible rfl
          rotate_left
          · simp only [Act.put, List.setIfInBounds_toArray, List.set_cons_zero, List.set_cons_succ, i64_w, i32_w]
            rfl
          refine pure_ (i := 3) (N := some 27) (v := ?_) (a' := ?_) #[false, true, true, true, false, false, false, false, false] rfl rfl (by kernel_rfl) (fun _ _ _ h => h) (Or.inl ⟨by rfl, ?_⟩) ?_ ?_
          rotate_left
          · intro w'
            go_simp
            with_reducible rfl
          rotate_left
          · simp only [Act.put, List.setIfInBounds_toArray, List.set_cons_zero, List.set_cons_succ, i64_w, i32_w]
            rfl
          refine pure_ (i := 4) (N := some 28) (v := ?_) (a' := ?_) #[false, true, true, true, true, false, false, false, false] rfl rfl (by kernel_rfl) (fun _ _ _ h => h) (Or.inl ⟨by rfl, ?_⟩) ?_ ?_
          rotate_left
          · intro w'
            go_simp
            with_reducible rfl
          rotate_left
          · simp only [Act.put, List.setIfInBounds_toArray, List.set_cons_zero, List.set_cons_succ, i64_w, i32_w]
            rfl
          refine take_ (i := 0) (N := some 24) (v := ?_) (a' := ?_) #[true, true, true, true, true, false, false, false, false] rfl rfl (by kernel_rfl) (fun _ _ _ h => h) (Or.inl ⟨by rfl, ?_⟩) hHeld ?_ ?_
          rotate_left
          · rintro w' ⟨s0, s1, s2, s3, s4⟩
            go_simp
            with_reducible rfl
          rotate_left
          · simp only [Act.put, List.setIfInBounds_toArray, List.set_cons_zero, List.set_cons_succ, i64_w, i32_w]
            rfl
          refine take_ (i := 5) (N := some 29) (v := ?_) (a' := ?_) #[true, true, true, true, true, true, false, false, false] rfl rfl (by kernel_rfl) (fun _ _ _ h => h) (Or.inl ⟨by rfl, ?_⟩) hHeld ?_ ?_
          rotate_left
          · rintro w' ⟨s0, s1, s2, s3, s4⟩
            go_simp
            with_reducible rfl
          rotate_left
          · simp only [Act.put, List.setIfInBounds_toArray, List.set_cons_zero, List.set_cons_succ, i64_w, i32_w]
            rfl
          refine one_ (i := 6) (N := some 30) #[true, true, true, true, true, true, true, false, false] rfl rfl (by kernel_rfl) (by decide) (fun K hK => ?_)
          refine value_ (w1 := ?_) (v := ?_) (by rfl) rfl ?_ ?_
          rotate_left 2
          · go_simp
            constructor
            · rfl
            · rfl
          refine hK.out _ _ ⟨(World.cell?_alloc_past _ _ _ (blk_lt HBX.out)).trans bx, (World.cell?_alloc_past _ _ _ HGL.out).trans fm0, (World.cell?_alloc_past _ _ _ HGL.out).trans fm1, (World.cell?_alloc_past _ _ _ HGL.out).trans fm2, (World.cell?_alloc_past _ _ _ HGL.out).trans fm3⟩ (fun hHeld => ?_)
          clear hK K
          refine norm_ (a' := ?_) ?_ ?_
          rotate_left
          · show Act.put _ (some 30) _ = _
            simp only [Act.put, List.setIfInBounds_toArray, List.set_cons_zero, List.set_cons_succ, i64_w, i32_w]
            rfl
          refine one_ (i := 7) (N := some 31) #[true, true, true, true, true, true, true, true, false] rfl rfl (by kernel_rfl) (by decide) (fun K hK => ?_)
          refine Kd.R_append_step kMsg (w0 := X) (W := wr.drew) base (by rfl) (.tmp 24) (.tmp 30) 71 64 (.agg #[.string ⟨#[]⟩, .slice none 0 0, .int .i64 0, .bool false]) 56 (by rfl) Try.underlying71 infoMsg (by rfl) (by decide) (by omega) vs1 (sent ++ heard (ps.take k)) ⟨t, pp, q, rt⟩ [.string t, .slice Am pp.length nm, .int .i64 q, .bool rt] (fun j => avs j ∨ okp j ∨ X.heap.size ≤ j) (fun j => okp j ∧ j ≠ g) (by rfl) (by rfl) ?hp ?hokp ?hfresh ?HO ?HB ?hbase ?hl ?_
          case hp => exact HE.out
          case hokp => exact fun j hj => ⟨.inr (.inl hj.1), fun e => by rcases HW.out.own j e.symm with h | h; exact HD.out j hj.1 h; have := HL.out j hj.1; omega⟩
          case hfresh => exact fun j hj => .inr (.inr (Nat.le_trans HW.out.fr.size hj))
          case HO => exact HW.out.row
          case HB => exact HW.out.bel HAV.out.1 HAV.out.2 hbase
          case hbase => exact Nat.le_trans hbase HW.out.fr.size
          case hl => have := HLN.out; have := heard_len (ps.take k); simp only [List.length_append, List.length_take] at *; omega
          intro v1 w5 hq hbl hg hat
          obtain ⟨A1, c1, hev⟩ := Kd.R_slice hq
          obtain ⟨N1, hN1⟩ : ∃ N1, N1 = (sent ++ heard (ps.take k) ++ [(⟨t, pp, q, rt⟩ : Msg)]).length := ⟨_, rfl⟩
          rw [← hN1] at hev
          subst hev
          clear hN1
          have HP5 := Aside0.mk (HW.out.push HBn.out hq hg hat)
          have hfz : w5.frozen? ⟨Bs, 0, none⟩ = false := blk_frozen (blk_grown HBX.out hg (Kd.R_ne HW.out.row HBX.out (by decide))) 0
          have bx5 : w5.cell? ⟨Bs, 0, none⟩ = some vs1 := blk_cell (blk_grown HBX.out hg (Kd.R_ne HW.out.row HBX.out (by decide))) 0
          have hgb := hg.block g HGL.out (fun e => by rcases HW.out.own g e.symm with h | h; exact HGO.out.1 h; have := HGO.out.2; omega)
          have g5 : ∀ j u, wr.cell? ⟨g, j, none⟩ = some u → w5.cell? ⟨g, j, none⟩ = some u := fun j u hu => (World.cell?_of_block (a := ⟨g, j, none⟩) hgb).trans hu
          refine hK.out _ _ ⟨bx5, g5 _ _ fm0, g5 _ _ fm1, g5 _ _ fm2, g5 _ _ fm3⟩ (fun hHeld => ?_)
          clear hK K
          refine norm_ (a' := ?_) ?_ ?_
          rotate_left
          · show Act.put _ (some 31) _ = _
            simp only [Act.put, List.setIfInBounds_toArray, List.set_cons_zero, List.set_cons_succ, i64_w, i32_w]
            rfl
          refine last_ (i := 8) (N := none) #[true, true, true, true, true, true, true, true, true] rfl rfl (by kernel_rfl) (by decide) (fun K hK => ?_)
          refine skip_ (w1 := ?_) (by rfl) rfl ?_ ?_
          rotate_left
          · go_simp
            rfl
          refine hK.out _ _ ?_
          clear hK K
          refine done_ (by kernel_rfl) ?_
          have H2 := Aside0.mk (show HearAt X (w5.setCell ⟨Bs, 0, none⟩ (.slice A1 N1 c1)) base Bs avs okp (.slice A1 N1 c1) (sent ++ heard (ps.take (k + 1))) from by rw [HH.out]; simpa using HP5.out)
          clear HP5 hHeld
          go_wp2_with fail
          go_roundg (ps.length - (k + 1))
          case measure => have := HK.out; have := HKL.out; omega
          case rel => exact ⟨k + 1, _, by have := HKL.out; omega, by go_num, H2⟩
        · have HHB : heardB ⟨pk, lv, cl, ka, ct, hwl, wl, hus, us, hpa, pa, pr, cd, true, ⟨t, pp, q, rt⟩, pid, asks, cods, fils⟩ = false := by unfold heardB; dsimp only; rw [hkd]; rfl
          rw [HHB] at HH
          have H2 := Aside0.mk (show HearAt X wr base Bs avs okp vs1 (sent ++ heard (ps.take (k + 1))) from by rw [HH.out]; simpa using H.out)
          clear HHB HE
          go_wp2_with fail
          go_roundg (ps.length - (k + 1))
          case measure => have := HK.out; have := HKL.out; omega
          case rel => exact ⟨k + 1, _, by have := HKL.out; omega, by go_num, H2⟩
    · have hk1 : decide ((k : Int) < ps.length) = false := decide_eq_false (by omega)
      have hk2 : decide (k < ps.length) = false := decide_eq_false hlt
      have hke : ps.take k = ps := List.take_of_length_le (by omega)
      rw [hke] at H
      clear hke hlt HK
      go_wp2_with fail
      go_end0
      exact ⟨rfl, vs1, H.out⟩
end Go.Proofs.Ytjccmlmkcjmicaa.Win

/- AllA: texts All1, All2 in one. -/
import Derived.Test.YtdjfdopgjlbloaaGreatDoorWSkA
import Derived.Test.YtdjfdopgjlbloaaGreatDoorWMtcA
import Derived.Test.YtdjfdopgjlbloaaGreatDoorWEnt1
/- Walks: all cases of an assertion: the reference (l5Cases, l5All). -/
namespace Go.Proofs.YtdjfdopgjlbloaaGreatDoor
open Go.RowKit

/-- The contract: the cases are put behind those of the list. -/
def CasesP (M : Nat) (a : Asn) (n : Nat) : Prop := ∀ {S1 S2 S3 : Nat → Prop} (vo v1 v2 cv : Value) (l : List (List Int)) (B Mf g fc t : Nat) (ti : Int) (p q : List Int) (w : World) (_ho : OO w B vo l) (_hB : B ≤ w.heap.size) (_hln : l.length + (restL M a n p).length ≤ 1099511627776) (_h1 : RL w S1 v1 a.1) (_h2 : RL w S2 v2 a.2) (_hbw : BW w g 9 Mf) (_hc : RL w S3 cv q)
    (_hs : ∀ k, some k = vo.ownBlock → (¬ S1 k ∧ ¬ S2 k) ∧ (¬ k = g ∧ ¬ S3 k)) (_hbit : ∀ j, 1 ≤ j → M.testBit j = Mf.testBit j) (_hti : ti = (t : Int)) (_ht1 : 1 ≤ t) (_htn : t + n = 9) (_hP : ClsP M p q t),
    Calls Tryz.prog 58 #[vo, .agg #[v1, v2], .slice (some ⟨g, 0, none⟩) 9 fc, cv, .int .i64 ti] w fun e w' => ∃ v', e = .returned v' ∧ OO w' B v' (l ++ restL M a n p) ∧ Fr (fun k => some k = vo.ownBlock) w w' ∧ (∀ k, some k = v'.ownBlock → some k = vo.ownBlock ∨ w.heap.size < k)
set_option maxRecDepth 100000 in
set_option maxHeartbeats 6400000 in
theorem cases_zero {M : Nat} {a : Asn} (ha : asnB a = true) (hcov : ∀ j, (termsM a).testBit j = true → M.testBit j = true) : CasesP M a 0 := by
  intro S1 S2 S3 vo v1 v2 cv l B Mf g fc t ti p q w ho hB hln h1 h2 hbw hc hs hbit hti ht1 htn hP
  obtain ⟨xa1, xc1, rfl⟩ := h1.form
  obtain ⟨xa2, xc2, rfl⟩ := h2.form
  obtain ⟨ca, cc, rfl⟩ := hc.form
  obtain ⟨oa, oc, rfl⟩ := ho.form
  have fa := asn_all' ha
  have FA := Lib.hid fa
  have H8 := Lib.hid hP.le8
  have HP := Lib.hid hP
  have HQ9 := Lib.hid hP.hq
  have hl2 : a.2.length ≤ 1048576 := by have := fa.2; omega
  have c0 : (w.alloc (.cells #[.slice xa1 a.1.length xc1, .slice xa2 a.2.length xc2] 37)).cell? ⟨w.heap.size, 0, none⟩ = some (.slice xa1 a.1.length xc1) := by simp [go_sem]
  have c1 : (w.alloc (.cells #[.slice xa1 a.1.length xc1, .slice xa2 a.2.length xc2] 37)).cell? ⟨w.heap.size, 1, none⟩ = some (.slice xa2 a.2.length xc2) := by simp [go_sem]
  have hW : Below w.heap.size w (w.alloc (.cells #[.slice xa1 a.1.length xc1, .slice xa2 a.2.length xc2] 37)) := Bl
  have HX := Lib.hid (And.intro (And.intro c0 c1) (And.intro hW trivial))
  have hg := hbw.lt
  obtain ⟨f1, hf1⟩ : ∃ x, a.1.all (fitsF q) = x := ⟨_, rfl⟩
  obtain ⟨f2, hf2⟩ : ∃ x, earlyE q 0 a.2 = x := ⟨_, rfl⟩
  have HF1 := Lib.hid hf1
  have HF2 := Lib.hid hf2
  have HO := Lib.hid (And.intro ho hB)
  have HLN := Lib.hid hln
  clear c0 c1 hW fa hf1 hf2 hP ho hB hln hs
  obtain rfl : ti = (t : Int) := hti
  have hcw := Lib.hid hc.ints
  have HTN := Lib.hid htn
  clear hc hbw htn hbit
  obtain rfl : t = 9 := by have := HTN.out; omega
  have HNo := Lib.hid (show (f1 && f2) = false → restL M a 0 p = [] by
    intro hf
    rw [HP.out.cut ha (by rw [HF1.out, HF2.out]; exact hf)])
  have KEEP : ∀ w', restL M a 0 p = [] → Below w.heap.size w w' → ∃ v', (Ending.returned (.slice oa l.length oc)) = .returned v' ∧ OO w' B v' (l ++ restL M a 0 p) ∧ Fr (fun k => some k = (Value.slice oa l.length oc).ownBlock) w w' ∧ (∀ k, some k = v'.ownBlock → some k = (Value.slice oa l.length oc).ownBlock ∨ w.heap.size < k) := fun w' hr hb =>
    ⟨_, rfl, by rw [hr, List.append_nil]; exact HO.out.1.keep hb, (Below.fr hb).mono fun _ _ h => h.elim, fun k hk => .inl hk⟩
  have HKP := Lib.hid KEEP
  clear KEEP
  go_enter Tryz.func58, Tryz.ntmps58
  go_wp2_with fail
  generalize (w.alloc (.cells #[.slice xa1 a.1.length xc1, .slice xa2 a.2.length xc2] 37)) = w0 at HX ⊢
  have c0 := HX.out.1.1
  have c1 := HX.out.1.2
  have hW := HX.out.2.1
  refine (cb (l5Fits_any _ _ a.1 q _ (h1.keep hW) (hcw.out.keep hW) FA.out.1.1 HQ9.out) HF1.out).mono ?_
  rintro e w1 ⟨rfl, hb⟩
  replace c0 := cell_keep hb c0; replace c1 := cell_keep hb c1; replace hW := bt hW hb
  clear hb
  cases f1 with
  | false =>
    have HN := Lib.hid (HNo.out rfl)
    go_wp2
    go_returns
    exact HKP.out _ HN.out hW
  | true =>
    go_wp2_with fail
    refine (cb (l5Early_any _ _ a.2 q _ (h2.keep hW) (hcw.out.keep hW) FA.out.1.2 HQ9.out H8.out) HF2.out).mono ?_
    rintro e w2 ⟨rfl, hb⟩
    replace c0 := cell_keep hb c0; replace c1 := cell_keep hb c1; replace hW := bt hW hb
    clear hb
    cases f2 with
    | false =>
      have HN := Lib.hid (HNo.out rfl)
      go_wp2
      go_returns
      exact HKP.out _ HN.out hW
    | true =>
      obtain ⟨ap, hap⟩ : ∃ x, apartB (filledL q a.2) = x := ⟨_, rfl⟩
      have hfin := HP.out.fin ha hcov HF1.out
      rw [hap] at hfin
      have HAP := Lib.hid hap
      have HFIN := Lib.hid hfin
      clear hap hfin
      go_wp2_with fail
      refine (filledS_any _ _ q a.2 _ (hcw.out.keep hW) HQ9.out (h2.keep hW) FA.out.1.2 hl2).mono ?_
      rintro e w3 ⟨vL, rfl, hL, hb⟩
      have hLr := hL.rl
      obtain ⟨la, lc, rfl⟩ := hLr.form
      replace c0 := cell_keep hb c0; replace c1 := cell_keep hb c1; replace hW := bt hW hb
      clear hb hL
      go_wp2_with fail
      refine (cb (l5Apart_any _ (filledL q a.2) _ hLr) HAP.out).mono ?_
      rintro e w4 ⟨rfl, hb⟩
      replace c0 := cell_keep hb c0; replace c1 := cell_keep hb c1; replace hW := bt hW hb
      clear hb hLr
      cases ap with
      | false =>
        have HN := Lib.hid (show restL M a 0 p = [] by rw [HFIN.out]; rfl)
        go_wp2
        go_returns
        exact HKP.out _ HN.out hW
      | true =>
        have HN := Lib.hid (show restL M a 0 p = [q] by rw [HFIN.out]; rfl)
        have hlen : l.length + 1 ≤ 1099511627776 := by have := HLN.out; rw [HN.out] at this; simpa using this
        have hz4 := hW.size
        go_wp2_with (first
          | (at_builtin; refine app_copy0 rfl (.tmp 34) (.tmp 35) rfl rfl rfl (hcw.out.keep hW) (by rw [HQ9.out]; decide) (by rw [HQ9.out]; decide) ?_; intro g9 c9 w9 own9 hb9; have hz9 := hb9.size; obtain ⟨xs, hown, hgrow⟩ := HO.out.1.pl.grow (Below.fr (bt (bt hW hb9) (below_alloc w9 (.cells #[.slice (some ⟨g9, 0, none⟩) q.length c9] 23)))) (fun _ _ _ h => h) HO.out.2; have HGR := Lib.hid hgrow; clear hgrow)
          | (at_builtin; refine app_cells (n := l.length) (m := 1) (news := [.slice (some ⟨g9, 0, none⟩) q.length c9]) rfl (.tmp 33) (.tmp 37) _ rfl (B := B) ti_ints rfl hown rfl rfl (news1 _ _ _) (one1 _ _ _) hlen (by have := HO.out.2; simp; omega) ?_; intro v' w7 hr7 hf7 hl7))
        obtain ⟨fx, hOL, hfx⟩ := OO.ints (own_mono (B' := w.heap.size) own9 hW.size)
        have hx : Own.own (w9.alloc (.cells #[.slice (some ⟨g9, 0, none⟩) q.length c9] 23)) w.heap.size q [.slice (some ⟨g9, 0, none⟩) q.length c9] fx := ⟨_, rfl, hOL.keep (below_alloc _ _)⟩
        have hpl7 := (HGR.out q _ fx v' w7 hx hfx hf7 hr7 hl7).done
        have hF7 := (Below.fr (bt (bt hW hb9) (below_alloc w9 (.cells #[.slice (some ⟨g9, 0, none⟩) q.length c9] 23)))).mono (S' := fun k => some k = (Value.slice oa l.length oc).ownBlock) (fun _ _ h => h.elim)
        have HE := Lib.hid (And.intro hpl7 (And.intro (hF7.trans hf7) (show ∀ k, some k = v'.ownBlock → some k = (Value.slice oa l.length oc).ownBlock ∨ w.heap.size < k from fun k hk => by
          rcases hl7 with h | h
          · exact .inl (hk.trans h)
          · right; rw [h] at hk; have := Option.some.inj hk; simp at this; have := World.block_lt_of_cell? w4 _ c0; simp only at this; omega)))
        clear hpl7 hF7 hx hOL hfx hr7 hf7 hl7 hown
        go_wp2
        go_returns
        exact ⟨_, rfl, by rw [HN.out]; exact HE.out.1, HE.out.2.1, HE.out.2.2⟩
set_option maxRecDepth 100000 in
set_option maxHeartbeats 12800000 in
theorem cases_succ {M : Nat} {a : Asn} (ha : asnB a = true) {n : Nat} (ih : CasesP M a n) : CasesP M a (n + 1) := by
  intro S1 S2 S3 vo v1 v2 cv l B Mf g fc t ti p q w ho hB hln h1 h2 hbw hc hs hbit hti ht1 htn hP
  obtain ⟨xa1, xc1, rfl⟩ := h1.form
  obtain ⟨xa2, xc2, rfl⟩ := h2.form
  obtain ⟨ca, cc, rfl⟩ := hc.form
  obtain ⟨oa, oc, rfl⟩ := ho.form
  have fa := asn_all' ha
  have FA := Lib.hid fa
  have H8 := Lib.hid hP.le8
  have HP := Lib.hid hP
  have HQ9 := Lib.hid hP.hq
  have hl2 : a.2.length ≤ 1048576 := by have := fa.2; omega
  have c0 : (w.alloc (.cells #[.slice xa1 a.1.length xc1, .slice xa2 a.2.length xc2] 37)).cell? ⟨w.heap.size, 0, none⟩ = some (.slice xa1 a.1.length xc1) := by simp [go_sem]
  have c1 : (w.alloc (.cells #[.slice xa1 a.1.length xc1, .slice xa2 a.2.length xc2] 37)).cell? ⟨w.heap.size, 1, none⟩ = some (.slice xa2 a.2.length xc2) := by simp [go_sem]
  have hW : Below w.heap.size w (w.alloc (.cells #[.slice xa1 a.1.length xc1, .slice xa2 a.2.length xc2] 37)) := Bl
  have HX := Lib.hid (And.intro (And.intro c0 c1) (And.intro hW trivial))
  have hg := hbw.lt
  obtain ⟨f1, hf1⟩ : ∃ x, a.1.all (fitsF q) = x := ⟨_, rfl⟩
  obtain ⟨f2, hf2⟩ : ∃ x, earlyE q 0 a.2 = x := ⟨_, rfl⟩
  have HF1 := Lib.hid hf1
  have HF2 := Lib.hid hf2
  have HO := Lib.hid (And.intro ho hB)
  have HLN := Lib.hid hln
  clear c0 c1 hW fa hf1 hf2 hP ho hB hln
  obtain rfl : ti = (t : Int) := hti
  have hcw := Lib.hid hc.ints
  have HTN := Lib.hid htn
  have HC := Lib.hid hc
  have HBW := Lib.hid hbw
  have HBIT := Lib.hid hbit
  have HS := Lib.hid hs
  clear hc hbw htn hbit hs
  have ht8 : (t : Int) ≤ 8 := by have := HTN.out; omega
  have ht9 : t < 9 := by omega
  have htq : (t : Int) < 9 := by omega
  have HNo := Lib.hid (show (f1 && f2) = false → restL M a (n + 1) p = [] by
    intro hf
    rw [HP.out.cut ha (by rw [HF1.out, HF2.out]; exact hf)])
  have KEEP : ∀ w', restL M a (n + 1) p = [] → Below w.heap.size w w' → ∃ v', (Ending.returned (.slice oa l.length oc)) = .returned v' ∧ OO w' B v' (l ++ restL M a (n + 1) p) ∧ Fr (fun k => some k = (Value.slice oa l.length oc).ownBlock) w w' ∧ (∀ k, some k = v'.ownBlock → some k = (Value.slice oa l.length oc).ownBlock ∨ w.heap.size < k) := fun w' hr hb =>
    ⟨_, rfl, by rw [hr, List.append_nil]; exact HO.out.1.keep hb, (Below.fr hb).mono fun _ _ h => h.elim, fun k hk => .inl hk⟩
  have HKP := Lib.hid KEEP
  clear KEEP
  go_enter Tryz.func58, Tryz.ntmps58
  go_wp2_with fail
  generalize (w.alloc (.cells #[.slice xa1 a.1.length xc1, .slice xa2 a.2.length xc2] 37)) = w0 at HX ⊢
  have c0 := HX.out.1.1
  have c1 := HX.out.1.2
  have hW := HX.out.2.1
  refine (cb (l5Fits_any _ _ a.1 q _ (h1.keep hW) (hcw.out.keep hW) FA.out.1.1 HQ9.out) HF1.out).mono ?_
  rintro e w1 ⟨rfl, hb⟩
  replace c0 := cell_keep hb c0; replace c1 := cell_keep hb c1; replace hW := bt hW hb
  clear hb
  cases f1 with
  | false =>
    have HN := Lib.hid (HNo.out rfl)
    go_wp2
    go_returns
    exact HKP.out _ HN.out hW
  | true =>
    go_wp2_with fail
    refine (cb (l5Early_any _ _ a.2 q _ (h2.keep hW) (hcw.out.keep hW) FA.out.1.2 HQ9.out H8.out) HF2.out).mono ?_
    rintro e w2 ⟨rfl, hb⟩
    replace c0 := cell_keep hb c0; replace c1 := cell_keep hb c1; replace hW := bt hW hb
    clear hb
    cases f2 with
    | false =>
      have HN := Lib.hid (HNo.out rfl)
      go_wp2
      go_returns
      exact HKP.out _ HN.out hW
    | true =>
      have hbw := HBW.out.keep hW
      have hfl := hbw.cell t (by omega)
      have hMt := HBIT.out t ht1
      cases hbt : Mf.testBit t with
      | false =>
        rw [hbt] at hfl hMt
        have HMT := Lib.hid hMt
        have hre := rest_not (M := M) (a := a) (n := n) (p := p) (by rw [HP.out.hp]; exact hMt)
        have hih := ih _ _ _ _ l B Mf g fc (t + 1) ((t : Int) + 1) (p ++ [-1]) q w2 (HO.out.1.keep hW) (Nat.le_trans HO.out.2 hW.size) (by rw [← hre]; exact HLN.out) (h1.keep hW) (h2.keep hW) hbw (HC.out.keep hW) HS.out HBIT.out (by omega) (by omega) (by have := HTN.out; omega) (HP.out.skip ht9 hMt)
        rw [← hre] at hih
        have HIH := Lib.hid hih
        clear hbt hMt hre hih hbw
        go_wp2_with fail
        refine HIH.out.mono ?_
        rintro e w5 ⟨v5, rfl, ho5, hf5, hl5⟩
        have hz2 := hW.size
        have HE := Lib.hid (And.intro ho5 (And.intro (((Below.fr hW).mono (S' := fun k => some k = (Value.slice oa l.length oc).ownBlock) fun _ _ h => h.elim).trans hf5) (show ∀ k, some k = v5.ownBlock → some k = (Value.slice oa l.length oc).ownBlock ∨ w.heap.size < k from fun k hk => by
          rcases hl5 k hk with h | h
          · exact .inl h
          · right; omega)))
        clear ho5 hf5 hl5
        go_wp2
        go_returns
        exact ⟨_, rfl, HE.out.1, HE.out.2.1, HE.out.2.2⟩
      | true =>
        rw [hbt] at hfl hMt
        have HMT := Lib.hid hMt
        have HW2 := Lib.hid (And.intro (And.intro c0 c1) hW)
        clear hbt hMt hbw
        go_wp2
        go_loopg [0, 11] (t + 1) (fun gq vo i wr => ∃ (k : Nat) (va : Option Addr) (vc : Nat), k + gq = t + 1 ∧ vo = .slice va (l ++ restTo M a n p k).length vc ∧ i = .int .i64 k ∧ OO wr B (.slice va (l ++ restTo M a n p k).length vc) (l ++ restTo M a n p k) ∧ (wr.cell? ⟨w.heap.size, 0, none⟩ = some (.slice xa1 a.1.length xc1) ∧ wr.cell? ⟨w.heap.size, 1, none⟩ = some (.slice xa2 a.2.length xc2)) ∧ Fr (fun j => some j = (Value.slice oa l.length oc).ownBlock) w wr ∧ (∀ j, some j = (Value.slice va (l ++ restTo M a n p k).length vc).ownBlock → some j = (Value.slice oa l.length oc).ownBlock ∨ w.heap.size < j))
        case atStart => exact ⟨0, oa, oc, by omega, by rw [restTo_zero, List.append_nil], rfl, by rw [restTo_zero, List.append_nil]; exact HO.out.1.keep HW2.out.2, HW2.out.1, (Below.fr HW2.out.2).mono fun _ _ h => h.elim, fun j hj => by rw [restTo_zero, List.append_nil] at hj; exact .inl hj⟩
        case round =>
          clear c0 c1 hW hfl
          obtain ⟨k, va, vc, hk, rfl, rfl, hoo, ⟨c0, c1⟩, hf, hlie⟩ := hrel
          obtain ⟨L, hL⟩ : ∃ L, L = l ++ restTo M a n p k := ⟨_, rfl⟩
          rw [← hL] at hoo hlie ⊢
          have HLL := Lib.hid hL
          clear hL
          have HK := Lib.hid hk
          clear hk
          have hzf := hf.size
          have hcr := HC.out.kept hf (fun j _ h3 e => (HS.out j e).2.2 h3)
          have hci := hcr.ints
          obtain ⟨gb, go_, gc, hfe, _, _, hcell⟩ := hci.ne (by rw [HQ9.out]; decide)
          simp only [Value.slice.injEq] at hfe
          obtain ⟨rfl, hh, rfl⟩ := hfe
          clear hh
          by_cases hk8 : k ≤ t
          · have hki : (k : Int) ≤ (t : Int) := by omega
            have hk9 : (k : Int) < (q.length : Int) := by rw [HQ9.out]; omega
            have hcl := hcell k (by rw [HQ9.out]; omega)
            have hzb : gb < wr.heap.size := World.block_lt_of_cell? wr _ hcl
            obtain ⟨E, hE⟩ : ∃ E, gi q k = E := ⟨_, rfl⟩
            rw [hE] at hcl
            have HF := Lib.hid (And.intro hf hlie)
            have HCR := Lib.hid hcr
            clear hcell hf hlie hcr hci
            by_cases hne : k < t ∧ ¬ E = (k : Int)
            · have hlt : (k : Int) < (t : Int) := by omega
              have heb : (E != (k : Int)) = true := by simp [hne.2]
              have HN := Lib.hid (show L = l ++ restTo M a n p (k + 1) by
                rw [HLL.out, restTo_no (by
                  rw [Bool.or_eq_false_iff, beq_eq_false_iff_ne, beq_eq_false_iff_ne, HP.out.hp]
                  exact ⟨by omega, by rw [← HP.out.ag k hne.1, hE]; exact hne.2⟩)])
              have HOO := Lib.hid hoo
              clear hE hne hoo
              go_wp2
              go_roundg (gk - 1)
              case rel => exact ⟨k + 1, va, vc, by have := HK.out; omega, by rw [← HN.out], by go_num, by rw [← HN.out]; exact HOO.out, ⟨c0, c1⟩, HF.out.1, by rw [← HN.out]; exact HF.out.2⟩
              case measure => have := HK.out; omega
            have hyes : (k < t ∧ gi q k = (k : Int)) ∨ k = t := by
              by_cases e : k = t
              · exact .inr e
              · exact .inl ⟨by omega, by rw [hE]; exact Decidable.byContradiction fun h => hne ⟨by omega, h⟩⟩
            have hst := restTo_yes (M := M) (a := a) (n := n) (p := p) (k := k) (by
              rw [Bool.or_eq_true, beq_iff_eq, beq_iff_eq, HP.out.hp]
              rcases hyes with ⟨h1, h2⟩ | h
              · exact .inr (by rw [← HP.out.ag k h1]; exact h2)
              · exact .inl h)
            have hto := (restTo_to (M := M) (a := a) (n := n) (p := p) (k := k + 1) (by rw [HP.out.hp]; exact HMT.out) (by rw [HP.out.hp]; omega)).length_le
            have hln2 : L.length + (restL M a n (p ++ [(k : Int)])).length ≤ 1099511627776 := by
              have := HLN.out
              rw [hst, List.length_append] at hto
              rw [HLL.out, List.length_append]; omega
            have HST := Lib.hid hst
            have HL2 := Lib.hid hln2
            have HPN := Lib.hid (HP.out.next ht9 HMT.out hyes)
            have hcase : (E = (k : Int) ∧ (k : Int) < (t : Int)) ∨ ¬ (k : Int) < (t : Int) := by
              rcases hyes with ⟨h1, h2⟩ | h
              · exact .inl ⟨by rw [← hE]; exact h2, by omega⟩
              · right; omega
            clear hst hyes hne hE hto hln2
            have hzw : w.heap.size < wr.heap.size := World.block_lt_of_cell? wr _ c0
            have hzo : ∀ j, some j = (Value.slice va L.length vc).ownBlock → ¬ j = w.heap.size ∧ j < wr.heap.size := fun j hj => by
              have hlt := (hoo.own_lt hj).2
              refine ⟨fun e => ?_, hlt⟩
              rcases HF.out.2 j hj with h | h
              · have := (HO.out.1.own_lt h).2; omega
              · omega
            have HZO := Lib.hid hzo
            have HOO := Lib.hid hoo
            clear hzo hoo
            rcases hcase with ⟨rfl, hlt⟩ | hlt
            all_goals
              go_wp2_with (at_builtin; go_must (refine app_copy0 rfl (.tmp 68) (.tmp 69) rfl rfl rfl HCR.out.ints (by rw [HQ9.out]; decide) (by rw [HQ9.out]; decide) ?_; intro g9 c9 w9 own9 hb9; have HO9 := Lib.hid own9; obtain ⟨hcold, hfz⟩ := own_cell own9 t (by rw [HQ9.out]; omega); have hq9 : (t : Int) < (q.length : Int) := (by rw [HQ9.out]; omega); have hg9 : wr.heap.size ≤ g9 := (own_lt own9 rfl).1; replace c0 := cell_set_other (r := ⟨g9, t, none⟩) (u := .int .i64 (k : Int)) (cell_keep hb9 c0) (show ¬ w.heap.size = g9 by omega); replace c1 := cell_set_other (r := ⟨g9, t, none⟩) (u := .int .i64 (k : Int)) (cell_keep hb9 c1) (show ¬ w.heap.size = g9 by omega); have hW9 := Lib.hid (hb9.setCell (show wr.heap.size ≤ (⟨g9, t, none⟩ : Addr).block from hg9) (.int .i64 (k : Int))); clear own9 hb9))
              have F9 := HF.out.1.thenB hW9.out
              have z9 := hW9.out.size
              have hr9 := (own_ints (own_set HO9.out t (k : Int))).1.rl.more (S' := fun j => j = g9) (fun j _ hj => by have h2 : some j = some g9 := hj; exact Option.some.inj h2)
              have hh1 := (h1.more (S' := fun j => S1 j ∧ j < w.heap.size) fun j hj h => ⟨h, hj⟩).kept F9 fun j _ h e => (HS.out j e).1.1 h.1
              have hh2 := (h2.more (S' := fun j => S2 j ∧ j < w.heap.size) fun j hj h => ⟨h, hj⟩).kept F9 fun j _ h e => (HS.out j e).1.2 h.1
              have hbw9 := HBW.out.kept F9 fun e => (HS.out g e).2.1 rfl
              have hss : ∀ k', some k' = (Value.slice va L.length vc).ownBlock → (¬ (S1 k' ∧ k' < w.heap.size) ∧ ¬ (S2 k' ∧ k' < w.heap.size)) ∧ (¬ k' = g ∧ ¬ k' = g9) := fun k' hk' => by
                have hz := (HZO.out k' hk').2
                rcases HF.out.2 k' hk' with h | h
                · have := HS.out k' h
                  exact ⟨⟨fun e => this.1.1 e.1, fun e => this.1.2 e.1⟩, this.2.1, fun e => by omega⟩
                · exact ⟨⟨fun e => by have := e.2; omega, fun e => by have := e.2; omega⟩, fun e => by omega, fun e => by omega⟩
              have hih := ih _ _ _ _ L B Mf g fc (t + 1) ((t : Int) + 1) (p ++ [(k : Int)]) (q.set t (k : Int)) _ (HOO.out.keep hW9.out) (Nat.le_trans HO.out.2 F9.size) HL2.out hh1 hh2 hbw9 hr9 hss HBIT.out (by omega) (by omega) (by have := HTN.out; omega) HPN.out
              have HIH := Lib.hid hih
              clear hih hr9 hh1 hh2 hbw9 hss
              refine HIH.out.mono ?_
              rintro e w5 ⟨v5, rfl, ho5, hf5, hl5⟩
              replace c0 := hf5.cell (fun e => (HZO.out _ e).1 rfl) c0
              replace c1 := hf5.cell (fun e => (HZO.out _ e).1 rfl) c1
              obtain ⟨v5a, v5c, rfl⟩ := ho5.form
              have HN := Lib.hid (show L ++ restL M a n (p ++ [(k : Int)]) = l ++ restTo M a n p (k + 1) by rw [HST.out, HLL.out, List.append_assoc])
              have H5 := Lib.hid (And.intro ho5 (And.intro (F9.then hf5 fun j hj e => by
                rcases HF.out.2 j e with h | h
                · exact h
                · omega) (show ∀ j, some j = (Value.slice v5a (L ++ restL M a n (p ++ [(k : Int)])).length v5c).ownBlock → some j = (Value.slice oa l.length oc).ownBlock ∨ w.heap.size < j from fun j hj => by
                rcases hl5 j hj with h | h
                · exact HF.out.2 j h
                · right; omega)))
              clear ho5 hf5 hl5 F9
              go_wp2
              go_roundg (gk - 1)
              case rel => exact ⟨k + 1, v5a, v5c, by have := HK.out; omega, by rw [← HN.out, List.length_append], by go_num, by rw [← HN.out]; exact H5.out.1, ⟨c0, c1⟩, H5.out.2.1, by rw [← HN.out]; exact H5.out.2.2⟩
              case measure => have := HK.out; omega
          · obtain rfl : k = t + 1 := by have := HK.out; omega
            have hki : ¬ ((t + 1 : Nat) : Int) ≤ (t : Int) := by omega
            have hall := restTo_all (M := M) (a := a) (n := n) (p := p) (by rw [HP.out.hp]; exact HMT.out)
            rw [HP.out.hp] at hall
            have HLE := Lib.hid (show L = l ++ restL M a (n + 1) p by rw [HLL.out, hall])
            have HE := Lib.hid (And.intro hoo (And.intro hf hlie))
            clear hall hcell hf hlie hoo hcr hci
            go_wp2
            go_returns
            exact ⟨_, rfl, by rw [← HLE.out]; exact HE.out.1, HE.out.2.1, HE.out.2.2⟩
end Go.Proofs.YtdjfdopgjlbloaaGreatDoor
/- Walks: all cases of an assertion, from their start: the reference's l5All. -/
namespace Go.Proofs.YtdjfdopgjlbloaaGreatDoor
open Go.RowKit

theorem chC_len (M : Nat) (p : List Int) : (chC M p).length ≤ p.length + 1 := by
  rw [chC]
  split
  · rw [List.length_map]
    exact Nat.le_trans (List.length_filter_le _ _) (by simp)
  · simp
theorem flat_leC {α β : Type} {c : Nat} (f : α → List β) : ∀ (l : List α), (∀ x ∈ l, (f x).length ≤ c) → (l.flatMap f).length ≤ l.length * c
  | [], _ => by simp
  | x :: r, h => by
    rw [List.flatMap_cons, List.length_append, List.length_cons, Nat.succ_mul]
    have h1 := h x List.mem_cons_self
    have h2 := flat_leC f r fun y hy => h y (List.mem_cons_of_mem _ hy)
    omega
theorem shapes_len {M : Nat} : ∀ (n : Nat) (p : List Int), p.length + n ≤ 9 → (shapesL M n p).length ≤ 10 ^ n
  | 0, p, _ => by simp [shapesL]
  | n + 1, p, h => by
    rw [shapesL]
    have h1 := flat_leC (c := 10 ^ n) (fun c => shapesL M n (p ++ [c])) (chC M p) fun c _ => shapes_len n (p ++ [c]) (by rw [List.length_append, List.length_singleton]; omega)
    have h2 := chC_len M p
    refine Nat.le_trans h1 ?_
    rw [Nat.pow_succ, Nat.mul_comm]
    exact Nat.mul_le_mul_left _ (by omega)
theorem rest_len {M : Nat} {a : Asn} : (restL M a 8 [0]).length ≤ 100000000 := by
  have := shapes_len (M := M) 8 [0] (by simp)
  refine Nat.le_trans (List.length_filter_le _ _) (Nat.le_trans this (by decide))
theorem cases_all {M : Nat} {a : Asn} (ha : asnB a = true) (hcov : ∀ j, (termsM a).testBit j = true → M.testBit j = true) : ∀ n, CasesP M a n
  | 0 => cases_zero ha hcov
  | n + 1 => cases_succ ha (cases_all ha hcov n)
theorem OO.emp {w : World} {B g : Nat} {T : TypeId} (h : w.heap[g]? = some (.cells #[] T (0, 0))) (hT : T = 23) (hB : B ≤ g) : OO w B (.slice (some ⟨g, 0, none⟩) 0 0) ([] : List (List Int)) := by
  subst hT
  have ho := own_of_row (l := []) hB rfl (by decide) h
  exact ⟨_, ⟨[], [], ho, rfl, rfl, fun i hi => absurd hi (by simp)⟩, by simp [Value.ownBlock]⟩
theorem l5Cases_any {S1 S2 : Nat → Prop} (v1 v2 tv_ cv : Value) (M Mf B0 B B2 g0 : Nat) (a : Asn) (w : World) (hg0 : w.heap[g0]? = some (.cells #[] 23 (0, 0))) (hB : B ≤ g0) (h1 : RL w S1 v1 a.1) (h2 : RL w S2 v2 a.2) (hS : (∀ k, S1 k → ¬ k = g0) ∧ ∀ k, S2 k → ¬ k = g0)
    (ht : w.ownsRow B0 4 1 tv_ 9 (flagsOf Mf)) (htg : ¬ some g0 = tv_.ownBlock) (hc : w.ownsRow B2 3 1 cv 9 (ints (openL 8))) (hcg : ¬ some g0 = cv.ownBlock) (ha : asnB a = true)
    (hcov : ∀ j, (termsM a).testBit j = true → M.testBit j = true) (h0 : M.testBit 0 = true) (hbit : ∀ j, 1 ≤ j → M.testBit j = Mf.testBit j) :
    Calls Tryz.prog 58 #[.slice (some ⟨g0, 0, none⟩) 0 0, .agg #[v1, v2], tv_, cv, .int .i64 1] w fun e w' => ∃ v', e = .returned v' ∧ OO w' B v' (casesL M a) ∧ Below B w w' := by
  obtain ⟨tb, tcap, rfl⟩ := flags_form ht
  have hz := box_lt hg0
  refine (cases_all ha hcov 8 _ v1 v2 cv [] B Mf tb tcap 1 1 [0] (openL 8) w (OO.emp hg0 rfl hB) (by omega) (by have := rest_len (M := M) (a := a); simp; omega) h1 h2 (bw_own ht) (own_ints hc).1.rl (fun k hk => ?_) hbit rfl (by omega) (by omega) (open_cls h0)).mono ?_
  · obtain rfl : k = g0 := Option.some.inj hk
    exact ⟨⟨fun h => hS.1 k h rfl, fun h => hS.2 k h rfl⟩, fun e => htg (by rw [e]; rfl), fun h => hcg h⟩
  · rintro e w' ⟨v', rfl, ho, hf, _⟩
    rw [List.nil_append, ← open_cases h0] at ho
    exact ⟨v', rfl, ho, hf.below (by omega) fun k hk e => by have e2 : k = g0 := Option.some.inj e; omega⟩
set_option maxRecDepth 100000 in
set_option maxHeartbeats 6400000 in
theorem l5All_any {S1 S2 : Nat → Prop} (v1 v2 tv_ : Value) (M Mf B0 : Nat) (a : Asn) (w : World) (h1 : RL w S1 v1 a.1) (h2 : RL w S2 v2 a.2) (ht : w.ownsRow B0 4 1 tv_ 9 (flagsOf Mf)) (ha : asnB a = true)
    (hcov : ∀ j, (termsM a).testBit j = true → M.testBit j = true) (h0 : M.testBit 0 = true) (hbit : ∀ j, 1 ≤ j → M.testBit j = Mf.testBit j) :
    Calls Tryz.prog 38 #[.agg #[v1, v2], tv_] w fun e w' => ∃ v', e = .returned v' ∧ OO w' w.heap.size v' (casesL M a) ∧ Below w.heap.size w w' := by
  obtain ⟨xa1, xc1, rfl⟩ := h1.form
  obtain ⟨xa2, xc2, rfl⟩ := h2.form
  obtain ⟨tb, tcap, rfl⟩ := flags_form ht
  have htl := (own_lt ht (k := tb) rfl).2
  obtain ⟨W, hWe⟩ : ∃ W, W = w.alloc (.cells #[.slice xa1 a.1.length xc1, .slice xa2 a.2.length xc2] 37) := ⟨_, rfl⟩
  have hc0 : W.cell? ⟨w.heap.size, 0, none⟩ = some (.slice xa1 a.1.length xc1) := by rw [hWe]; simp [go_sem]
  have hc1 : W.cell? ⟨w.heap.size, 1, none⟩ = some (.slice xa2 a.2.length xc2) := by rw [hWe]; simp [go_sem]
  have hW : Below w.heap.size w W := by rw [hWe]; exact Bl
  have hzW : w.heap.size < W.heap.size := World.block_lt_of_cell? W _ hc0
  have hq1 := h1.lt.keep hW
  have hq2 := h2.lt.keep hW
  have htW := own_keep ht hW
  have HWE := Lib.hid hWe
  have HV := Lib.hid (And.intro ha (And.intro hcov (And.intro h0 hbit)))
  clear hWe ha hcov h0 hbit h1 h2 ht
  go_enter Tryz.func38, Tryz.ntmps38
  go_upto_region 1 with fail
  rw [← HWE.out]
  go_region_held3 (fun w' => w'.cell? ⟨w.heap.size, 0, none⟩ = some (.slice xa1 a.1.length xc1) ∧ w'.cell? ⟨w.heap.size, 1, none⟩ = some (.slice xa2 a.2.length xc2))
    (first | exact ⟨hk0, hk1⟩ | exact ⟨cell_keep Bl hc0, cell_keep Bl hc1⟩)
    (first
      | (go_at_call 59; go_must ((with_reducible refine (l5Open_any _).mono ?_); rintro e w3 ⟨v3, rfl, hown3, hb3'⟩; obtain ⟨c3, n3, rfl, hc3⟩ := own_form hown3; have hb3 : Below W.heap.size W w3 := bt Bl hb3'; have hz3 := hb3.size; have hz3' := hb3'.size; have hlt3 := fun k (hk : some k = (Value.slice c3 9 n3).ownBlock) => own_lt hown3 hk; (try simp only [World.size_alloc, World.size_drew] at hlt3); have HO3 := Lib.hid hown3; clear hown3))
      | (go_at_call 58; go_must (refine (l5Cases_any (S1 := fun k => k < w.heap.size) (S2 := fun k => k < w.heap.size) _ _ _ _ M Mf B0 W.heap.size _ _ a _ ?hg0 ?hB (hq1.keep Bl) (hq2.keep Bl) ⟨?hS1, ?hS2⟩ (own_keep htW Bl) ?htg (own_keep HO3.out Bl) ?hcg HV.out.1 HV.out.2.1 HV.out.2.2.1 HV.out.2.2.2).mono ?_; (case hg0 => first | exact heap_alloc_new _ _ | exact box_keep (heap_alloc_new W (.cells #[] 23)) (bt (below_drew _) hb3') | exact box_keep (heap_alloc_new W (.cells #[] 23)) hb3' | exact box_keep (heap_alloc_new W.drew (.cells #[] 23)) hb3'); (case hB => first | omega | (simp; try omega)); (case hS1 => intro k h e; have h2 : k < w.heap.size := h; first | omega | (simp at e; try omega)); (case hS2 => intro k h e; have h2 : k < w.heap.size := h; first | omega | (simp at e; try omega)); (case htg => intro e; have e2 := Option.some.inj e; first | omega | (simp at e2; try omega)); (case hcg => intro e; have e3 := hlt3 _ e; first | omega | (simp at e3; try omega)); rintro e w5 ⟨v5, rfl, ho5, hb5'⟩; have hb5W : Below W.heap.size W w5 := (bt hb3 Bl).trans hb5'; have hk0 := cell_keep hb5W hc0; have hk1 := cell_keep hb5W hc1)))
  all_goals
    have HE := Lib.hid (And.intro (ho5.mono (Nat.le_of_lt hzW)) (bt hW hb5W))
    clear ho5 hb5W hb5'
    go_wp2
    go_returns
    exact ⟨_, rfl, HE.out.1, HE.out.2⟩
end Go.Proofs.YtdjfdopgjlbloaaGreatDoor

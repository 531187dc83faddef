/- Walks: what an atom uses (the reference's l16Goal); the list of a case. -/
import Derived.Test.YthoingdcmdhllaaMtc3
import Derived.Test.YthoingdcmdhllaaCpy
import Derived.Test.YthoingdcmdhllaaMtc2
import Derived.Deep.CutRange
import Derived.Deep.CutBlock
namespace Go.Proofs.Ythoingdcmdhllaa
open Go.RowKit

theorem chain_step {left : List Atom} {B : Int} {cl : Bool} {f m mF : Nat} {A : Int} {us : List Int} (h : chainU left B cl f m A = some (mF, us)) :
    ∃ f' i, f = f' + 1 ∧ findU left m A = some i ∧ (((gd left i).2.2 = B ∧ mF = m ||| 2 ^ i ∧ us = [(i : Int)]) ∨ ((gd left i).2.2 ≠ B ∧ ∃ us2, us = (i : Int) :: us2 ∧ chainU left B cl f' (m ||| 2 ^ i) (gd left i).2.2 = some (mF, us2))) := by
  cases f with
  | zero => simp [chainU] at h
  | succ f =>
    rw [chainU] at h
    cases hf : findU left m A with
    | none => rw [hf] at h; simp at h
    | some i =>
      rw [hf] at h
      simp only at h
      refine ⟨f, i, rfl, rfl, ?_⟩
      by_cases hB : (gd left i).2.2 = B
      · rw [if_pos hB] at h
        simp only [Option.some.injEq, Prod.mk.injEq] at h
        exact .inl ⟨hB, h.1.symm, h.2.symm⟩
      · rw [if_neg hB] at h
        by_cases hc : (gd left i).1 = 2 ∧ cl = false
        · rw [if_pos hc] at h; cases h
        · rw [if_neg hc, Option.map_eq_some_iff] at h
          obtain ⟨r, hr, he⟩ := h
          simp only [Prod.mk.injEq] at he
          exact .inr ⟨hB, r.2, he.2.symm, by rw [hr, ← he.1]⟩
theorem cell_step {left : List Atom} {m mF : Nat} {x : Atom} {us : List Int} (h : cellU left m x = some (mF, us)) :
    ∃ i, findU left m x.2.1 = some i ∧ gd left i = x ∧ mF = m ||| 2 ^ i ∧ us = [(i : Int)] := by
  rw [cellU] at h
  cases hf : findU left m x.2.1 with
  | none => rw [hf] at h; simp at h
  | some i =>
    rw [hf] at h
    simp only at h
    by_cases hx : gd left i = x
    · rw [if_pos hx] at h
      simp only [Option.some.injEq, Prod.mk.injEq] at h
      exact ⟨i, rfl, hx, h.1.symm, h.2.symm⟩
    · rw [if_neg hx] at h; cases h
theorem bw_fr {w w' : World} {g n m : Nat} {T : Nat → Prop} (h : BW w g n m) (hf : Fr T w w') (hT : ¬ T g) : BW w' g n m := h.kept hf hT
set_option maxRecDepth 100000 in
set_option maxHeartbeats 6400000 in
theorem l16Goal_any {S : Nat → Prop} (v : Value) (g uc m mF : Nat) (left : List Atom) (x : Atom) (us : List Int) (w : World) (hv : RL w S v left) (hS : ∀ k, S k → ¬ k = g) (hb : BW w g left.length m) (h6 : left.length ≤ 6)
    (hk : x.1 = 1 ∨ (x.1 = 2 ∧ x.2.1 ≠ x.2.2)) (hr : goalU left m x = some (mF, us)) :
    Calls Try.prog 121 #[v, .slice (some ⟨g, 0, none⟩) left.length uc, .agg #[.int .i64 x.1, .int .i64 x.2.1, .int .i64 x.2.2]] w fun e w' => ∃ v', e = .returned v' ∧ w'.ownsRow w.heap.size 3 1 v' us.length (ints us) ∧ BW w' g left.length mF ∧ Fr (fun k => k = g) w w' := by
  obtain ⟨x1, x2, x3⟩ := x
  simp only at hk ⊢
  rw [goal_shapeS] at hr
  simp only at hr
  obtain ⟨va, vc, rfl⟩ := hv.form
  have hglt := hb.lt
  have HV := Lib.hid hv
  have HB := Lib.hid hb
  have H6 := Lib.hid h6
  have hg0 := heap_alloc_new w (.cells #[.int .i64 x1, .int .i64 x2, .int .i64 x3] 142)
  have hg1 := box_keep hg0 (below_alloc (w.alloc (.cells #[.int .i64 x1, .int .i64 x2, .int .i64 x3] 142)) (.cells #[] 3))
  have ho1 := own_empty_at (w.alloc (.cells #[.int .i64 x1, .int .i64 x2, .int .i64 x3] 142)) (w.heap.size + 1) 3 (w.heap.size + 1) (by simp) (Nat.le_refl _)
  have hb1 : Below w.heap.size w ((w.alloc (.cells #[.int .i64 x1, .int .i64 x2, .int .i64 x3] 142)).alloc (.cells #[] 3)) := (by repeat (first | exact Below.refl _ _ | with_reducible assumption | exact below_alloc _ _ | (refine Below.setCell ?_ (by first | (simp; done) | (simp; omega) | omega) _) | apply bd | apply ba | apply be))
  obtain ⟨w1, hw1⟩ : ∃ W, W = (w.alloc (.cells #[.int .i64 x1, .int .i64 x2, .int .i64 x3] 142)).alloc (.cells #[] 3) := ⟨_, rfl⟩
  rw [← hw1] at hb1 hg1 ho1
  have hz1 : w1.heap.size = w.heap.size + 2 := by rw [hw1]; simp
  have HW1 := Lib.hid hw1
  have H1 := Lib.hid (And.intro hg1 (And.intro ho1 hb1))
  clear hg0 hb1 hg1 ho1 hw1 h6
  by_cases hx1 : x1 = 1
  · subst hx1
    rw [if_pos rfl] at hr
    obtain ⟨i, hfi, hgi, hmF, hus⟩ := cell_step hr
    simp only at hfi
    obtain ⟨hil, hic, hbm⟩ := findU_some hfi
    have hi6 : (i : Int) < (left.length : Int) := by omega
    have HF := Lib.hid hfi
    have HE := Lib.hid (And.intro hmF hus)
    clear hr hfi hmF hus hic hbm hk hv hb
    go_enter Try.func121, Try.ntmps121
    go_wp2
    rw [← HW1.out]
    have hg1 := H1.out.1
    have c0 := cell_of_row _ _ 0 _ _ _ hg1
    have c1 := cell_of_row _ _ 1 _ _ _ hg1
    have c2 := cell_of_row _ _ 2 _ _ _ hg1
    simp only [List.getElem?_toArray, List.getElem?_cons_zero, List.getElem?_cons_succ] at c0 c1 c2
    go_loopg [7, 8] 1 (fun q o A wr => o = .slice (some ⟨w.heap.size + 1, 0, none⟩) 0 0 ∧ A = .int .i64 x2 ∧ wr = w1)
    case atStart => exact ⟨rfl, rfl, rfl⟩
    case round =>
      obtain ⟨rfl, rfl, rfl⟩ := hrel
      have hbw := HB.out.keep H1.out.2.2
      have hq := HV.out.keep H1.out.2.2
      obtain ⟨va', vc', hve, _, _, hvf⟩ := HV.out.atomAt
      simp only [Value.slice.injEq] at hve
      obtain ⟨rfl, _, rfl⟩ := hve
      obtain ⟨b1, o1, rfl, hsb, hbl1, hp1, hp2, hp3⟩ := hvf i hil
      have hb1b : ¬ b1 = g := hS b1 hsb
      rw [hgi] at hp1 hp2 hp3
      simp only at hp1 hp2 hp3
      replace hp1 := cell_keep H1.out.2.2 hp1
      replace hp2 := cell_keep H1.out.2.2 hp2
      replace hp3 := cell_keep H1.out.2.2 hp3
      have F6 := fr_set wr ⟨g, i, none⟩ (.bool true)
      have bw6 := hbw.set hil
      clear hvf
      by_cases hAB : x2 = x3
      · have hab : (x2 != x3) = false := by simp [hAB]
        clear hAB
        go_wp2_with fail
        refine (l6Find_any _ g uc m left x2 (some i) _ hq hbw HF.out).mono ?_
        rintro e w5 ⟨rfl, rfl⟩
        simp only [retF]
        have hbit := hbw.cell i hil
        have hfz := hbw.fz i hil
        go_upto_region 8 with fail
        generalize wr.setCell ⟨g, i, none⟩ (.bool true) = wS at F6 bw6 ⊢
        have own6 := own_kept H1.out.2.1 F6 (fun k hk e => by have := (own_lt H1.out.2.1 hk).1; omega)
        have e0 := F6.cell (show ¬ w.heap.size = g by omega) c0
        have p3 := F6.cell (show ¬ b1 = g from hb1b) hp3
        have hz6 := F6.size
        have HQ6 := Lib.hid (And.intro (((Below.fr H1.out.2.2).mono (S' := fun k => k = g) (fun _ _ h => h.elim)).trans F6) (And.intro bw6 (And.intro e0 p3)))
        clear F6 bw6 e0 p3 hbit hfz hbw hq hp1 hp2 hp3 c0 c1 c2
        go_wp2_with (at_builtin; go_must (refine app_int _ rfl _ _ rfl (w.heap.size + 1) _ [] rfl (own_keep own6 (below_alloc _ _)) ⟨wS.heap.size, 0, none⟩ _ rfl (cell_new1 _ _ _) (by simp) (by simp; omega) ?_; intro v' w7 own7 hf7; have hn7 := fun k (hk : k ≤ w.heap.size) (e : some k = _) => Nat.not_le.2 (own_lt own6 e).1 hk; have g0 := hf7.cell (hn7 _ (Nat.le_refl _)) (cell_keep (below_alloc _ (.cells #[.int .i64 (i : Int)] 3)) HQ6.out.2.2.1); have g3 := hf7.cell (hn7 _ (Nat.le_of_lt hbl1)) (cell_keep (below_alloc _ (.cells #[.int .i64 (i : Int)] 3)) HQ6.out.2.2.2); have bw7 := (HQ6.out.2.1.keep (below_alloc _ (.cells #[.int .i64 (i : Int)] 3))).kept hf7 (hn7 g (Nat.le_of_lt hglt)); have F7 := Lib.hid ((HQ6.out.1.thenB (below_alloc _ (.cells #[.int .i64 (i : Int)] 3))).then hf7 (fun k hk e => absurd e (hn7 k (by omega))))))
        go_wp2
        go_returns
        refine ⟨v', rfl, ?_, ?_, ?_⟩
        · rw [HE.out.2]; exact own_mono own7 (by omega)
        · rw [HE.out.1]; exact bw7
        · exact F7.out
      · have hab : (x2 != x3) = true := by simp [hAB]
        clear hAB
        go_wp2_with fail
        refine (l6Find_any _ g uc m left x2 (some i) _ hq hbw HF.out).mono ?_
        rintro e w5 ⟨rfl, rfl⟩
        simp only [retF]
        have hbit := hbw.cell i hil
        have hfz := hbw.fz i hil
        go_upto_region 8 with fail
        generalize wr.setCell ⟨g, i, none⟩ (.bool true) = wS at F6 bw6 ⊢
        have own6 := own_kept H1.out.2.1 F6 (fun k hk e => by have := (own_lt H1.out.2.1 hk).1; omega)
        have e0 := F6.cell (show ¬ w.heap.size = g by omega) c0
        have p3 := F6.cell (show ¬ b1 = g from hb1b) hp3
        have hz6 := F6.size
        have HQ6 := Lib.hid (And.intro (((Below.fr H1.out.2.2).mono (S' := fun k => k = g) (fun _ _ h => h.elim)).trans F6) (And.intro bw6 (And.intro e0 p3)))
        clear F6 bw6 e0 p3 hbit hfz hbw hq hp1 hp2 hp3 c0 c1 c2
        go_wp2_with (at_builtin; go_must (refine app_int _ rfl _ _ rfl (w.heap.size + 1) _ [] rfl (own_keep own6 (below_alloc _ _)) ⟨wS.heap.size, 0, none⟩ _ rfl (cell_new1 _ _ _) (by simp) (by simp; omega) ?_; intro v' w7 own7 hf7; have hn7 := fun k (hk : k ≤ w.heap.size) (e : some k = _) => Nat.not_le.2 (own_lt own6 e).1 hk; have g0 := hf7.cell (hn7 _ (Nat.le_refl _)) (cell_keep (below_alloc _ (.cells #[.int .i64 (i : Int)] 3)) HQ6.out.2.2.1); have g3 := hf7.cell (hn7 _ (Nat.le_of_lt hbl1)) (cell_keep (below_alloc _ (.cells #[.int .i64 (i : Int)] 3)) HQ6.out.2.2.2); have bw7 := (HQ6.out.2.1.keep (below_alloc _ (.cells #[.int .i64 (i : Int)] 3))).kept hf7 (hn7 g (Nat.le_of_lt hglt)); have F7 := Lib.hid ((HQ6.out.1.thenB (below_alloc _ (.cells #[.int .i64 (i : Int)] 3))).then hf7 (fun k hk e => absurd e (hn7 k (by omega))))))
        go_wp2
        go_returns
        refine ⟨v', rfl, ?_, ?_, ?_⟩
        · rw [HE.out.2]; exact own_mono own7 (by omega)
        · rw [HE.out.1]; exact bw7
        · exact F7.out
  have hk2 : x1 = 2 ∧ x2 ≠ x3 := by
    rcases hk with h | h
    · exact absurd h hx1
    · exact h
  obtain ⟨rfl, hne⟩ := hk2
  rw [if_neg (by decide)] at hr
  have hfu : left.length - cntM left.length m ≤ left.length := by omega
  generalize clsdB left x3 = cl at hr
  generalize left.length - cntM left.length m = f0 at hr hfu
  have HR := Lib.hid hr
  have HNE := Lib.hid hne
  have HFU := Lib.hid hfu
  clear hr hne hk hx1 hv hb hfu
  go_enter Try.func121, Try.ntmps121
  go_wp2
  rw [← HW1.out]
  have c0 := cell_of_row _ _ 0 _ _ _ H1.out.1
  have c1 := cell_of_row _ _ 1 _ _ _ H1.out.1
  have c2 := cell_of_row _ _ 2 _ _ _ H1.out.1
  simp only [List.getElem?_toArray, List.getElem?_cons_zero, List.getElem?_cons_succ] at c0 c1 c2
  have HC := Lib.hid (And.intro c0 (And.intro c1 c2))
  clear c0 c1 c2
  go_loopg [7, 8] f0 (fun q o A wr => ∃ (m' : Nat) (A' : Int) (us' : List Int), A = .int .i64 A' ∧ wr.ownsRow (w.heap.size + 1) 3 1 o us'.length (ints us') ∧ BW wr g left.length m' ∧
    (wr.cell? ⟨w.heap.size, 0, none⟩ = some (.int .i64 2) ∧ wr.cell? ⟨w.heap.size, 1, none⟩ = some (.int .i64 x2) ∧ wr.cell? ⟨w.heap.size, 2, none⟩ = some (.int .i64 x3)) ∧ us'.length + q ≤ left.length ∧
    ((A' = x3 → 0 < us'.length ∧ us' = us ∧ m' = mF) ∧ (A' ≠ x3 → ∃ us2, us = us' ++ us2 ∧ chainU left x3 cl q m' A' = some (mF, us2))) ∧ Fr (fun k => k = g) w wr)
  case atStart => exact ⟨m, x2, [], rfl, H1.out.2.1, HB.out.keep H1.out.2.2, HC.out, by simpa using HFU.out, ⟨fun e => absurd e HNE.out, fun _ => ⟨us, rfl, HR.out⟩⟩, (Below.fr H1.out.2.2).mono (fun _ _ h => h.elim)⟩
  case round =>
    obtain ⟨m', A', us', rfl, hown, hbw, ⟨c0, c1, c2⟩, hlen, hch, hf⟩ := hrel
    obtain ⟨oa, oc, rfl, _⟩ := own_form hown
    have HOWN := Lib.hid hown
    have hq := HV.out.kept hf (fun k _ hs h => hS k hs h)
    have hul : us'.length < 1099511627776 := by have := H6.out; omega
    by_cases hAB : A' = x3
    · have hab : (A' != x3) = false := by simp [hAB]
      obtain ⟨h1, rfl, rfl⟩ := hch.1 hAB
      have hlb : ((us'.length : Int) == 0) = false := by rw [beq_eq_false_iff_ne]; omega
      have HZ := Lib.hid (And.intro hbw hf)
      clear hAB hch hbw hf
      go_wp2
      go_returns
      exact ⟨_, rfl, own_mono HOWN.out (by omega), HZ.out.1, HZ.out.2⟩
    · have hab : (A' != x3) = true := by simp [hAB]
      obtain ⟨us2, hus, hc2⟩ := hch.2 hAB
      obtain ⟨f', i, hgk, hfi, hst⟩ := chain_step hc2
      obtain ⟨hil, hic, hbm⟩ := findU_some hfi
      have hi6 : (i : Int) < (left.length : Int) := by omega
      have HF := Lib.hid hfi
      have HGK := Lib.hid hgk
      obtain ⟨va', vc', hve, _, _, hvf⟩ := HV.out.atomAt
      simp only [Value.slice.injEq] at hve
      obtain ⟨rfl, _, rfl⟩ := hve
      obtain ⟨b1, o1, rfl, hsb, hbl1, hp1, hp2, hp3⟩ := hvf i hil
      have hb1b : ¬ b1 = g := hS b1 hsb
      replace hp3 := hf.cell hb1b hp3
      obtain ⟨B1, hB1⟩ : ∃ x, (gd left i).2.2 = x := ⟨_, rfl⟩
      rw [hB1] at hp3 hst
      have hnx : (B1 = x3 → 0 < (us' ++ [(i : Int)]).length ∧ us' ++ [(i : Int)] = us ∧ m' ||| 2 ^ i = mF) ∧ (B1 ≠ x3 → ∃ us2, us = (us' ++ [(i : Int)]) ++ us2 ∧ chainU left x3 cl f' (m' ||| 2 ^ i) B1 = some (mF, us2)) := by
        rcases hst with ⟨e, rfl, rfl⟩ | ⟨e, us3, rfl, h3⟩
        · exact ⟨fun _ => ⟨by simp, hus.symm, rfl⟩, fun h => absurd e h⟩
        · exact ⟨fun h => absurd h e, fun _ => ⟨us3, by simp [hus], h3⟩⟩
      have HNX := Lib.hid hnx
      have hln : (us' ++ [(i : Int)]).length + f' ≤ left.length := by rw [List.length_append, List.length_singleton]; omega
      have HLN := Lib.hid hln
      have F6 := fr_set wr ⟨g, i, none⟩ (.bool true)
      have bw6 := hbw.set hil
      have hzw := hf.size
      clear hvf hAB hch hus hc2 hgk hfi hic hbm hnx hln hst hB1
      go_wp2_with fail
      refine (l6Find_any _ g uc m' left A' (some i) _ hq hbw HF.out).mono ?_
      rintro e w5 ⟨rfl, rfl⟩
      simp only [retF]
      have hbit := hbw.cell i hil
      have hfz := hbw.fz i hil
      go_upto_region 8 with fail
      generalize wr.setCell ⟨g, i, none⟩ (.bool true) = wS at F6 bw6 ⊢
      have own6 := own_kept HOWN.out F6 (fun k hk e => by have := (own_lt HOWN.out hk).1; omega)
      have e0 := F6.cell (show ¬ w.heap.size = g by omega) c0
      have e1 := F6.cell (show ¬ w.heap.size = g by omega) c1
      have e2 := F6.cell (show ¬ w.heap.size = g by omega) c2
      have p3 := F6.cell (show ¬ b1 = g from hb1b) hp3
      have hz6 := F6.size
      have HQ6 := Lib.hid (And.intro (hf.trans F6) (And.intro bw6 (And.intro e0 p3)))
      have HE6 := Lib.hid (And.intro e1 e2)
      clear F6 bw6 e0 e1 e2 p3 hbit hfz hbw hq hp1 hp2 hp3 c0 c1 c2 hf
      go_wp2_with (at_builtin; go_must (refine app_int _ rfl _ _ rfl (w.heap.size + 1) _ us' rfl (own_keep own6 (below_alloc _ _)) ⟨wS.heap.size, 0, none⟩ _ rfl (cell_new1 _ _ _) (by omega) (by simp; omega) ?_; intro v' w7 own7 hf7; have hn7 := fun k (hk : k ≤ w.heap.size) (e : some k = _) => Nat.not_le.2 (own_lt own6 e).1 hk; have g0 := hf7.cell (hn7 _ (Nat.le_refl _)) (cell_keep (below_alloc _ (.cells #[.int .i64 (i : Int)] 3)) HQ6.out.2.2.1); have g1 := hf7.cell (hn7 _ (Nat.le_refl _)) (cell_keep (below_alloc _ (.cells #[.int .i64 (i : Int)] 3)) HE6.out.1); have g2 := hf7.cell (hn7 _ (Nat.le_refl _)) (cell_keep (below_alloc _ (.cells #[.int .i64 (i : Int)] 3)) HE6.out.2); have g3 := hf7.cell (hn7 _ (Nat.le_of_lt hbl1)) (cell_keep (below_alloc _ (.cells #[.int .i64 (i : Int)] 3)) HQ6.out.2.2.2); have bw7 := (HQ6.out.2.1.keep (below_alloc _ (.cells #[.int .i64 (i : Int)] 3))).kept hf7 (hn7 g (Nat.le_of_lt hglt)); have F7 := Lib.hid ((HQ6.out.1.thenB (below_alloc _ (.cells #[.int .i64 (i : Int)] 3))).then hf7 (fun k hk e => absurd e (hn7 k (by omega))))))
      have HR7 := Lib.hid (And.intro own7 (And.intro bw7 (And.intro g0 (And.intro g1 g2))))
      clear own7 bw7 g1 g2 hf7 hn7
      go_wp2
      go_roundg (f')
      case rel => exact ⟨m' ||| 2 ^ i, B1, us' ++ [(i : Int)], rfl, HR7.out.1, HR7.out.2.1, HR7.out.2.2, HLN.out, HNX.out, F7.out⟩
      case measure => have := HGK.out; omega
end Go.Proofs.Ythoingdcmdhllaa

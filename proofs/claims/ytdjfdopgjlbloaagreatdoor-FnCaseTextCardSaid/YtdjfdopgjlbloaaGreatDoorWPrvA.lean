/- PrvA: texts Prv1, Prv2, Prv3 in one. -/
import Derived.Test.YtdjfdopgjlbloaaGreatDoorWMtc3
import Derived.Test.YtdjfdopgjlbloaaGreatDoorWRens
import Derived.Test.YtdjfdopgjlbloaaGreatDoorWMtcA
import Derived.Deep.CutRange
import Derived.Deep.CutBlock
import Derived.Test.YtdjfdopgjlbloaaGreatDoorWEntC
import Derived.Deep.RegionLaw
/- Walks: what an atom uses (the reference's l16Goal); the list of a case. -/
namespace Go.Proofs.YtdjfdopgjlbloaaGreatDoor
open Go.RowKit

theorem chain_step {left : List Atom} {B : Int} {cl : Bool} {f m mF : Nat} {A : Int} {us : List Int} (h : chainU left B cl f m A = some (mF, us)) :
    ∃ f' i, f = f' + 1 ∧ findU left m A = some i ∧ (((gd left i).2.2 = B ∧ mF = m ||| 2 ^ i ∧ us = [(i : Int)]) ∨ ((gd left i).2.2 ≠ B ∧ ∃ us2, us = (i : Int) :: us2 ∧ chainU left B cl f' (m ||| 2 ^ i) (gd left i).2.2 = some (mF, us2))) := by
  cases f with
  | zero => simp [chainU] at h
  | succ f =>
    rw [chainU] at h
    cases hf : findU left m A with
    | none => rw [hf] at h; simp at h
    | some i =>
      rw [hf] at h
      simp only at h
      refine ⟨f, i, rfl, rfl, ?_⟩
      by_cases hB : (gd left i).2.2 = B
      · rw [if_pos hB] at h
        simp only [Option.some.injEq, Prod.mk.injEq] at h
        exact .inl ⟨hB, h.1.symm, h.2.symm⟩
      · rw [if_neg hB] at h
        by_cases hc : (gd left i).1 = 2 ∧ cl = false
        · rw [if_pos hc] at h; cases h
        · rw [if_neg hc, Option.map_eq_some_iff] at h
          obtain ⟨r, hr, he⟩ := h
          simp only [Prod.mk.injEq] at he
          exact .inr ⟨hB, r.2, he.2.symm, by rw [hr, ← he.1]⟩
theorem cell_step {left : List Atom} {m mF : Nat} {x : Atom} {us : List Int} (h : cellU left m x = some (mF, us)) :
    ∃ i, findU left m x.2.1 = some i ∧ gd left i = x ∧ mF = m ||| 2 ^ i ∧ us = [(i : Int)] := by
  rw [cellU] at h
  cases hf : findU left m x.2.1 with
  | none => rw [hf] at h; simp at h
  | some i =>
    rw [hf] at h
    simp only at h
    by_cases hx : gd left i = x
    · rw [if_pos hx] at h
      simp only [Option.some.injEq, Prod.mk.injEq] at h
      exact ⟨i, rfl, hx, h.1.symm, h.2.symm⟩
    · rw [if_neg hx] at h; cases h
set_option maxRecDepth 100000 in
set_option maxHeartbeats 6400000 in
theorem l16Goal_any {S : Nat → Prop} (v : Value) (g uc m mF : Nat) (left : List Atom) (x : Atom) (us : List Int) (w : World) (hv : RL w S v left) (hS : ∀ k, S k → ¬ k = g) (hb : BW w g left.length m) (h6 : left.length ≤ 6)
    (hk : x.1 = 1 ∨ (x.1 = 2 ∧ x.2.1 ≠ x.2.2)) (hr : goalU left m x = some (mF, us)) :
    Calls Tryz.prog 44 #[v, .slice (some ⟨g, 0, none⟩) left.length uc, .agg #[.int .i64 x.1, .int .i64 x.2.1, .int .i64 x.2.2]] w fun e w' => ∃ v', e = .returned v' ∧ w'.ownsRow w.heap.size 3 1 v' us.length (ints us) ∧ BW w' g left.length mF ∧ Fr (fun k => k = g) w w' := by
  obtain ⟨x1, x2, x3⟩ := x
  simp only at hk ⊢
  rw [goal_shapeS] at hr
  simp only at hr
  obtain ⟨va, vc, rfl⟩ := hv.form
  have hglt := hb.lt
  have HV := Lib.hid hv
  have HB := Lib.hid hb
  have H6 := Lib.hid h6
  have hg0 := heap_alloc_new w (.cells #[.int .i64 x1, .int .i64 x2, .int .i64 x3] 84)
  have hg1 := box_keep hg0 (below_alloc (w.alloc (.cells #[.int .i64 x1, .int .i64 x2, .int .i64 x3] 84)) (.cells #[] 3))
  have ho1 := own_empty_at (w.alloc (.cells #[.int .i64 x1, .int .i64 x2, .int .i64 x3] 84)) (w.heap.size + 1) 3 (w.heap.size + 1) (by simp) (Nat.le_refl _)
  have hb1 : Below w.heap.size w ((w.alloc (.cells #[.int .i64 x1, .int .i64 x2, .int .i64 x3] 84)).alloc (.cells #[] 3)) := Bl
  obtain ⟨w1, hw1⟩ : ∃ W, W = (w.alloc (.cells #[.int .i64 x1, .int .i64 x2, .int .i64 x3] 84)).alloc (.cells #[] 3) := ⟨_, rfl⟩
  rw [← hw1] at hb1 hg1 ho1
  have hz1 : w1.heap.size = w.heap.size + 2 := by rw [hw1]; simp
  have HW1 := Lib.hid hw1
  have H1 := Lib.hid (And.intro hg1 (And.intro ho1 hb1))
  clear hg0 hb1 hg1 ho1 hw1 h6
  by_cases hx1 : x1 = 1
  · subst hx1
    rw [if_pos rfl] at hr
    obtain ⟨i, hfi, hgi, hmF, hus⟩ := cell_step hr
    simp only at hfi
    obtain ⟨hil, hic, hbm⟩ := findU_some hfi
    have hi6 : (i : Int) < (left.length : Int) := by omega
    have HF := Lib.hid hfi
    have HE := Lib.hid (And.intro hmF hus)
    clear hr hfi hmF hus hic hbm hk hv hb
    go_enter Tryz.func44, Tryz.ntmps44
    go_wp2
    rw [← HW1.out]
    have hg1 := H1.out.1
    have c0 := cell_of_row _ _ 0 _ _ _ hg1
    have c1 := cell_of_row _ _ 1 _ _ _ hg1
    have c2 := cell_of_row _ _ 2 _ _ _ hg1
    simp only [List.getElem?_toArray, List.getElem?_cons_zero, List.getElem?_cons_succ] at c0 c1 c2
    go_loopg [7, 8] 1 (fun q o A wr => o = .slice (some ⟨w.heap.size + 1, 0, none⟩) 0 0 ∧ A = .int .i64 x2 ∧ wr = w1)
    case atStart => exact ⟨rfl, rfl, rfl⟩
    case round =>
      obtain ⟨rfl, rfl, rfl⟩ := hrel
      have hbw := HB.out.keep H1.out.2.2
      have hq := HV.out.keep H1.out.2.2
      obtain ⟨va', vc', hve, _, _, hvf⟩ := HV.out.atomAt
      simp only [Value.slice.injEq] at hve
      obtain ⟨rfl, _, rfl⟩ := hve
      obtain ⟨b1, o1, rfl, hsb, hbl1, hp1, hp2, hp3⟩ := hvf i hil
      have hb1b : ¬ b1 = g := hS b1 hsb
      rw [hgi] at hp1 hp2 hp3
      simp only at hp1 hp2 hp3
      replace hp1 := cell_keep H1.out.2.2 hp1
      replace hp2 := cell_keep H1.out.2.2 hp2
      replace hp3 := cell_keep H1.out.2.2 hp3
      have F6 := fr_set wr ⟨g, i, none⟩ (.bool true)
      have bw6 := hbw.set hil
      clear hvf
      by_cases hAB : x2 = x3
      · have hab : (x2 != x3) = false := by simp [hAB]
        clear hAB
        go_wp2_with fail
        refine (l6Find_any _ g uc m left x2 (some i) _ hq hbw HF.out).mono ?_
        rintro e w5 ⟨rfl, rfl⟩
        simp only [retF]
        have hbit := hbw.cell i hil
        have hfz := hbw.fz i hil
        go_upto_region 8 with fail
        generalize wr.setCell ⟨g, i, none⟩ (.bool true) = wS at F6 bw6 ⊢
        have own6 := own_kept H1.out.2.1 F6 (fun k hk e => by have := (own_lt H1.out.2.1 hk).1; omega)
        have e0 := F6.cell (show ¬ w.heap.size = g by omega) c0
        have p3 := F6.cell (show ¬ b1 = g from hb1b) hp3
        have hz6 := F6.size
        have HQ6 := Lib.hid (And.intro (((Below.fr H1.out.2.2).mono (S' := fun k => k = g) (fun _ _ h => h.elim)).trans F6) (And.intro bw6 (And.intro e0 p3)))
        clear F6 bw6 e0 p3 hbit hfz hbw hq hp1 hp2 hp3 c0 c1 c2
        go_wp2_with (at_builtin; go_must (refine app_int _ rfl _ _ rfl (w.heap.size + 1) _ [] rfl (own_keep own6 (below_alloc _ _)) ⟨wS.heap.size, 0, none⟩ _ rfl (cell_new1 _ _ _) (by simp) (by simp; omega) ?_; intro v' w7 own7 hf7; have hn7 := fun k (hk : k ≤ w.heap.size) (e : some k = _) => Nat.not_le.2 (own_lt own6 e).1 hk; have g0 := hf7.cell (hn7 _ (Nat.le_refl _)) (cell_keep (below_alloc _ (.cells #[.int .i64 (i : Int)] 3)) HQ6.out.2.2.1); have g3 := hf7.cell (hn7 _ (Nat.le_of_lt hbl1)) (cell_keep (below_alloc _ (.cells #[.int .i64 (i : Int)] 3)) HQ6.out.2.2.2); have bw7 := (HQ6.out.2.1.keep (below_alloc _ (.cells #[.int .i64 (i : Int)] 3))).kept hf7 (hn7 g (Nat.le_of_lt hglt)); have F7 := Lib.hid ((HQ6.out.1.thenB (below_alloc _ (.cells #[.int .i64 (i : Int)] 3))).then hf7 (fun k hk e => absurd e (hn7 k (by omega))))))
        go_wp2
        go_returns
        refine ⟨v', rfl, ?_, ?_, ?_⟩
        · rw [HE.out.2]; exact own_mono own7 (by omega)
        · rw [HE.out.1]; exact bw7
        · exact F7.out
      · have hab : (x2 != x3) = true := by simp [hAB]
        clear hAB
        go_wp2_with fail
        refine (l6Find_any _ g uc m left x2 (some i) _ hq hbw HF.out).mono ?_
        rintro e w5 ⟨rfl, rfl⟩
        simp only [retF]
        have hbit := hbw.cell i hil
        have hfz := hbw.fz i hil
        go_upto_region 8 with fail
        generalize wr.setCell ⟨g, i, none⟩ (.bool true) = wS at F6 bw6 ⊢
        have own6 := own_kept H1.out.2.1 F6 (fun k hk e => by have := (own_lt H1.out.2.1 hk).1; omega)
        have e0 := F6.cell (show ¬ w.heap.size = g by omega) c0
        have p3 := F6.cell (show ¬ b1 = g from hb1b) hp3
        have hz6 := F6.size
        have HQ6 := Lib.hid (And.intro (((Below.fr H1.out.2.2).mono (S' := fun k => k = g) (fun _ _ h => h.elim)).trans F6) (And.intro bw6 (And.intro e0 p3)))
        clear F6 bw6 e0 p3 hbit hfz hbw hq hp1 hp2 hp3 c0 c1 c2
        go_wp2_with (at_builtin; go_must (refine app_int _ rfl _ _ rfl (w.heap.size + 1) _ [] rfl (own_keep own6 (below_alloc _ _)) ⟨wS.heap.size, 0, none⟩ _ rfl (cell_new1 _ _ _) (by simp) (by simp; omega) ?_; intro v' w7 own7 hf7; have hn7 := fun k (hk : k ≤ w.heap.size) (e : some k = _) => Nat.not_le.2 (own_lt own6 e).1 hk; have g0 := hf7.cell (hn7 _ (Nat.le_refl _)) (cell_keep (below_alloc _ (.cells #[.int .i64 (i : Int)] 3)) HQ6.out.2.2.1); have g3 := hf7.cell (hn7 _ (Nat.le_of_lt hbl1)) (cell_keep (below_alloc _ (.cells #[.int .i64 (i : Int)] 3)) HQ6.out.2.2.2); have bw7 := (HQ6.out.2.1.keep (below_alloc _ (.cells #[.int .i64 (i : Int)] 3))).kept hf7 (hn7 g (Nat.le_of_lt hglt)); have F7 := Lib.hid ((HQ6.out.1.thenB (below_alloc _ (.cells #[.int .i64 (i : Int)] 3))).then hf7 (fun k hk e => absurd e (hn7 k (by omega))))))
        go_wp2
        go_returns
        refine ⟨v', rfl, ?_, ?_, ?_⟩
        · rw [HE.out.2]; exact own_mono own7 (by omega)
        · rw [HE.out.1]; exact bw7
        · exact F7.out
  have hk2 : x1 = 2 ∧ x2 ≠ x3 := by
    rcases hk with h | h
    · exact absurd h hx1
    · exact h
  obtain ⟨rfl, hne⟩ := hk2
  rw [if_neg (by decide)] at hr
  have hfu : left.length - cntM left.length m ≤ left.length := by omega
  generalize clsdB left x3 = cl at hr
  generalize left.length - cntM left.length m = f0 at hr hfu
  have HR := Lib.hid hr
  have HNE := Lib.hid hne
  have HFU := Lib.hid hfu
  clear hr hne hk hx1 hv hb hfu
  go_enter Tryz.func44, Tryz.ntmps44
  go_wp2
  rw [← HW1.out]
  have c0 := cell_of_row _ _ 0 _ _ _ H1.out.1
  have c1 := cell_of_row _ _ 1 _ _ _ H1.out.1
  have c2 := cell_of_row _ _ 2 _ _ _ H1.out.1
  simp only [List.getElem?_toArray, List.getElem?_cons_zero, List.getElem?_cons_succ] at c0 c1 c2
  have HC := Lib.hid (And.intro c0 (And.intro c1 c2))
  clear c0 c1 c2
  go_loopg [7, 8] f0 (fun q o A wr => ∃ (m' : Nat) (A' : Int) (us' : List Int), A = .int .i64 A' ∧ wr.ownsRow (w.heap.size + 1) 3 1 o us'.length (ints us') ∧ BW wr g left.length m' ∧
    (wr.cell? ⟨w.heap.size, 0, none⟩ = some (.int .i64 2) ∧ wr.cell? ⟨w.heap.size, 1, none⟩ = some (.int .i64 x2) ∧ wr.cell? ⟨w.heap.size, 2, none⟩ = some (.int .i64 x3)) ∧ us'.length + q ≤ left.length ∧
    ((A' = x3 → 0 < us'.length ∧ us' = us ∧ m' = mF) ∧ (A' ≠ x3 → ∃ us2, us = us' ++ us2 ∧ chainU left x3 cl q m' A' = some (mF, us2))) ∧ Fr (fun k => k = g) w wr)
  case atStart => exact ⟨m, x2, [], rfl, H1.out.2.1, HB.out.keep H1.out.2.2, HC.out, by simpa using HFU.out, ⟨fun e => absurd e HNE.out, fun _ => ⟨us, rfl, HR.out⟩⟩, (Below.fr H1.out.2.2).mono (fun _ _ h => h.elim)⟩
  case round =>
    obtain ⟨m', A', us', rfl, hown, hbw, ⟨c0, c1, c2⟩, hlen, hch, hf⟩ := hrel
    obtain ⟨oa, oc, rfl, _⟩ := own_form hown
    have HOWN := Lib.hid hown
    have hq := HV.out.kept hf (fun k _ hs h => hS k hs h)
    have hul : us'.length < 1099511627776 := by have := H6.out; omega
    by_cases hAB : A' = x3
    · have hab : (A' != x3) = false := by simp [hAB]
      obtain ⟨h1, rfl, rfl⟩ := hch.1 hAB
      have hlb : ((us'.length : Int) == 0) = false := by rw [beq_eq_false_iff_ne]; omega
      have HZ := Lib.hid (And.intro hbw hf)
      clear hAB hch hbw hf
      go_wp2
      go_returns
      exact ⟨_, rfl, own_mono HOWN.out (by omega), HZ.out.1, HZ.out.2⟩
    · have hab : (A' != x3) = true := by simp [hAB]
      obtain ⟨us2, hus, hc2⟩ := hch.2 hAB
      obtain ⟨f', i, hgk, hfi, hst⟩ := chain_step hc2
      obtain ⟨hil, hic, hbm⟩ := findU_some hfi
      have hi6 : (i : Int) < (left.length : Int) := by omega
      have HF := Lib.hid hfi
      have HGK := Lib.hid hgk
      obtain ⟨va', vc', hve, _, _, hvf⟩ := HV.out.atomAt
      simp only [Value.slice.injEq] at hve
      obtain ⟨rfl, _, rfl⟩ := hve
      obtain ⟨b1, o1, rfl, hsb, hbl1, hp1, hp2, hp3⟩ := hvf i hil
      have hb1b : ¬ b1 = g := hS b1 hsb
      replace hp3 := hf.cell hb1b hp3
      obtain ⟨B1, hB1⟩ : ∃ x, (gd left i).2.2 = x := ⟨_, rfl⟩
      rw [hB1] at hp3 hst
      have hnx : (B1 = x3 → 0 < (us' ++ [(i : Int)]).length ∧ us' ++ [(i : Int)] = us ∧ m' ||| 2 ^ i = mF) ∧ (B1 ≠ x3 → ∃ us2, us = (us' ++ [(i : Int)]) ++ us2 ∧ chainU left x3 cl f' (m' ||| 2 ^ i) B1 = some (mF, us2)) := by
        rcases hst with ⟨e, rfl, rfl⟩ | ⟨e, us3, rfl, h3⟩
        · exact ⟨fun _ => ⟨by simp, hus.symm, rfl⟩, fun h => absurd e h⟩
        · exact ⟨fun h => absurd h e, fun _ => ⟨us3, by simp [hus], h3⟩⟩
      have HNX := Lib.hid hnx
      have hln : (us' ++ [(i : Int)]).length + f' ≤ left.length := by rw [List.length_append, List.length_singleton]; omega
      have HLN := Lib.hid hln
      have F6 := fr_set wr ⟨g, i, none⟩ (.bool true)
      have bw6 := hbw.set hil
      have hzw := hf.size
      clear hvf hAB hch hus hc2 hgk hfi hic hbm hnx hln hst hB1
      go_wp2_with fail
      refine (l6Find_any _ g uc m' left A' (some i) _ hq hbw HF.out).mono ?_
      rintro e w5 ⟨rfl, rfl⟩
      simp only [retF]
      have hbit := hbw.cell i hil
      have hfz := hbw.fz i hil
      go_upto_region 8 with fail
      generalize wr.setCell ⟨g, i, none⟩ (.bool true) = wS at F6 bw6 ⊢
      have own6 := own_kept HOWN.out F6 (fun k hk e => by have := (own_lt HOWN.out hk).1; omega)
      have e0 := F6.cell (show ¬ w.heap.size = g by omega) c0
      have e1 := F6.cell (show ¬ w.heap.size = g by omega) c1
      have e2 := F6.cell (show ¬ w.heap.size = g by omega) c2
      have p3 := F6.cell (show ¬ b1 = g from hb1b) hp3
      have hz6 := F6.size
      have HQ6 := Lib.hid (And.intro (hf.trans F6) (And.intro bw6 (And.intro e0 p3)))
      have HE6 := Lib.hid (And.intro e1 e2)
      clear F6 bw6 e0 e1 e2 p3 hbit hfz hbw hq hp1 hp2 hp3 c0 c1 c2 hf
      go_wp2_with (at_builtin; go_must (refine app_int _ rfl _ _ rfl (w.heap.size + 1) _ us' rfl (own_keep own6 (below_alloc _ _)) ⟨wS.heap.size, 0, none⟩ _ rfl (cell_new1 _ _ _) (by omega) (by simp; omega) ?_; intro v' w7 own7 hf7; have hn7 := fun k (hk : k ≤ w.heap.size) (e : some k = _) => Nat.not_le.2 (own_lt own6 e).1 hk; have g0 := hf7.cell (hn7 _ (Nat.le_refl _)) (cell_keep (below_alloc _ (.cells #[.int .i64 (i : Int)] 3)) HQ6.out.2.2.1); have g1 := hf7.cell (hn7 _ (Nat.le_refl _)) (cell_keep (below_alloc _ (.cells #[.int .i64 (i : Int)] 3)) HE6.out.1); have g2 := hf7.cell (hn7 _ (Nat.le_refl _)) (cell_keep (below_alloc _ (.cells #[.int .i64 (i : Int)] 3)) HE6.out.2); have g3 := hf7.cell (hn7 _ (Nat.le_of_lt hbl1)) (cell_keep (below_alloc _ (.cells #[.int .i64 (i : Int)] 3)) HQ6.out.2.2.2); have bw7 := (HQ6.out.2.1.keep (below_alloc _ (.cells #[.int .i64 (i : Int)] 3))).kept hf7 (hn7 g (Nat.le_of_lt hglt)); have F7 := Lib.hid ((HQ6.out.1.thenB (below_alloc _ (.cells #[.int .i64 (i : Int)] 3))).then hf7 (fun k hk e => absurd e (hn7 k (by omega))))))
      have HR7 := Lib.hid (And.intro own7 (And.intro bw7 (And.intro g0 (And.intro g1 g2))))
      clear own7 bw7 g1 g2 hf7 hn7
      go_wp2
      go_roundg (f')
      case rel => exact ⟨m' ||| 2 ^ i, B1, us' ++ [(i : Int)], rfl, HR7.out.1, HR7.out.2.1, HR7.out.2.2, HLN.out, HNX.out, F7.out⟩
      case measure => have := HGK.out; omega
end Go.Proofs.YtdjfdopgjlbloaaGreatDoor
/- Walks: the proof of a case: the reference. -/
namespace Go.Proofs.YtdjfdopgjlbloaaGreatDoor
open Go.RowKit

/-- What a proof uses, if there is one. -/
def provC (a b : Asn) (cl : List Int) : Option (List (List Int)) := if asnB a = true ∧ asnB b = true ∧ readC (termsM b) a cl = true then matchC a b cl else none
def proveR (a b : Asn) (cl : List Int) : CPf := match provC a b cl with
  | some us => (cl, us)
  | none => ([], [])
theorem provC_ent (a b : Asn) (cl : List Int) : entC a b cl = (provC a b cl).isSome := by
  rw [provC, entC]
  cases h1 : asnB a
  · simp
  cases h2 : asnB b
  · simp
  cases h3 : readC (termsM b) a cl
  · simp
  · simp
theorem provC_some {a b : Asn} {cl : List Int} {us : List (List Int)} (h : provC a b cl = some us) :
    ((asnB a = true ∧ asnB b = true) ∧ readC (termsM b) a cl = true) ∧ (matchC a b cl = some us ∧ ∃ m, goalsU (filledL cl a.2) (filledL cl b.2) 0 = some (m, us)) := by
  rw [provC] at h
  by_cases hc : asnB a = true ∧ asnB b = true ∧ readC (termsM b) a cl = true
  · rw [if_pos hc] at h
    refine ⟨⟨⟨hc.1, hc.2.1⟩, hc.2.2⟩, h, ?_⟩
    rw [matchC] at h
    by_cases hf : b.1.all (factC cl) = true
    · rw [if_pos hf, mtchF] at h
      cases hg : goalsU (filledL cl a.2) (filledL cl b.2) 0 with
      | none => rw [hg] at h; cases h
      | some p =>
        rw [hg] at h
        simp only at h
        split at h
        · simp only [Option.some.injEq] at h
          exact ⟨p.1, by rw [← h]⟩
        · cases h
    · rw [if_neg hf] at h; cases h
  · rw [if_neg hc] at h; cases h
theorem goals_len {left : List Atom} : ∀ {right : List Atom} {m m' : Nat} {us : List (List Int)}, goalsU left right m = some (m', us) → us.length = right.length
  | [], m, m', us, h => by simp only [goalsU, Option.some.injEq, Prod.mk.injEq] at h; rw [← h.2]; rfl
  | x :: r, m, m', us, h => by
    rw [goalsU] at h
    cases hg : goalU left m x with
    | none => rw [hg] at h; cases h
    | some p =>
      rw [hg] at h
      simp only [Option.map_eq_some_iff, Prod.mk.injEq] at h
      obtain ⟨q, hq, _, h2⟩ := h
      rw [← h2, List.length_cons, List.length_cons, goals_len (m' := q.1) (us := q.2) (by rw [hq])]
theorem goals_go {left right : List Atom} {k m mF : Nat} {us0 us : List (List Int)} (hall : goalsU left right 0 = some (mF, us0)) (hk : k < right.length) (h : goalsU left (right.take k) 0 = some (m, us)) :
    ∃ m' u, goalU left m (gd right k) = some (m', u) ∧ goalsU left (right.take (k + 1)) 0 = some (m', us ++ [u]) := by
  have ht := goals_take hk h
  cases hg : goalU left m (gd right k) with
  | none =>
    rw [hg] at ht
    have := goals_stop (left := left) (right := right) (k := k + 1) ht
    rw [this] at hall; cases hall
  | some p => exact ⟨p.1, p.2, rfl, by rw [ht, hg]; rfl⟩
theorem own_rlP {w : World} {B : Nat} {v : Value} {l : List Int} (h : w.ownsRow B 3 1 v l.length (ints l)) : RL w (fun k => B ≤ k) v l := (own_ints h).1.rl.more fun _ _ hk => (own_lt h hk).1
theorem chain_len {left : List Atom} {B : Int} {c : Bool} : ∀ {f m : Nat} {A : Int} {p : Nat × List Int}, chainU left B c f m A = some p → p.2.length ≤ f
  | 0, _, _, _, h => by simp [chainU] at h
  | f + 1, m, A, p, h => by
    obtain ⟨mF, us⟩ := p
    obtain ⟨f', i, he, _, h3⟩ := chain_step h
    obtain rfl : f = f' := by omega
    rcases h3 with ⟨_, _, rfl⟩ | ⟨_, us2, rfl, h4⟩
    · simp
    · have := chain_len h4
      simp only [List.length_cons] at this ⊢
      omega
theorem goal_len {left : List Atom} {m : Nat} {x : Atom} {p : Nat × List Int} (h6 : left.length ≤ 6) (h : goalU left m x = some p) : p.2.length ≤ 6 := by
  obtain ⟨mF, us⟩ := p
  rw [goal_shapeS] at h
  by_cases hx : x.1 = 1
  · rw [if_pos hx] at h
    obtain ⟨i, _, _, _, rfl⟩ := cell_step h
    simp
  · rw [if_neg hx] at h
    have := chain_len h
    omega
theorem goals_all {left : List Atom} (h6 : left.length ≤ 6) : ∀ {right : List Atom} {m : Nat} {p : Nat × List (List Int)}, goalsU left right m = some p → ∀ u ∈ p.2, u.length ≤ 6
  | [], m, p, h => by simp only [goalsU, Option.some.injEq] at h; rw [← h]; simp
  | x :: r, m, p, h => by
    rw [goalsU] at h
    cases hg : goalU left m x with
    | none => rw [hg] at h; cases h
    | some q =>
      rw [hg] at h
      simp only [Option.map_eq_some_iff] at h
      obtain ⟨z, hz, rfl⟩ := h
      intro u hu
      rcases List.mem_cons.1 hu with rfl | hu
      · exact goal_len h6 hg
      · exact goals_all h6 hz u hu
theorem sum_six : ∀ (l : List (List Int)), (∀ u ∈ l, u.length ≤ 6) → (l.map (Mk.size (α := List Int))).sum ≤ 6 * l.length
  | [], _ => by simp
  | x :: r, h => by
    have h1 := sum_six r fun u hu => h u (List.mem_cons_of_mem _ hu)
    have h2 : Mk.size x ≤ 6 := h x List.mem_cons_self
    simp only [List.map_cons, List.sum_cons, List.length_cons]
    omega
set_option maxRecDepth 100000 in
set_option maxHeartbeats 6400000 in
theorem proveCaseS_any {S1 S2 S3 S4 : Nat → Prop} (v1 v2 u1 u2 cv : Value) (a b : Asn) (cl : List Int) (w : World) (h1 : RL w S1 v1 a.1) (h2 : RL w S2 v2 a.2) (k1 : RL w S3 u1 b.1) (k2 : RL w S4 u2 b.2) (j1 : RInts w cv cl) :
    Calls Tryz.prog 24 #[.agg #[v1, v2], .agg #[u1, u2], cv] w fun e w' => ∃ y1 y2, e = .returned (.tuple #[.agg #[y1, y2], .bool (provC a b cl).isSome]) ∧ (RL w' (fun k => w.heap.size ≤ k) y1 (proveR a b cl).1 ∧ RL w' (fun k => w.heap.size ≤ k) y2 (proveR a b cl).2) ∧ Below w.heap.size w w' := by
  obtain ⟨xa1, xc1, rfl⟩ := h1.form
  obtain ⟨xa2, xc2, rfl⟩ := h2.form
  obtain ⟨ya1, yc1, rfl⟩ := k1.form
  obtain ⟨ya2, yc2, rfl⟩ := k2.form
  obtain ⟨za1, zc1, rfl⟩ := j1.form
  obtain ⟨W, hWe⟩ : ∃ W, W = ((w.alloc (.cells #[.slice xa1 a.1.length xc1, .slice xa2 a.2.length xc2] 37)).alloc (.cells #[.slice ya1 b.1.length yc1, .slice ya2 b.2.length yc2] 37)).alloc (.cells #[.slice none 0 0, .slice none 0 0] 26) := ⟨_, rfl⟩
  have hW : Below w.heap.size w W := by rw [hWe]; exact Bl
  have hc0 : W.cell? ⟨w.heap.size, 0, none⟩ = some (.slice xa1 a.1.length xc1) := by rw [hWe]; simp [go_sem]
  have hc1 : W.cell? ⟨w.heap.size, 1, none⟩ = some (.slice xa2 a.2.length xc2) := by rw [hWe]; simp [go_sem]
  have hd0 : W.cell? ⟨w.heap.size + 1, 0, none⟩ = some (.slice ya1 b.1.length yc1) := by rw [hWe]; simp [go_sem]
  have hd1 : W.cell? ⟨w.heap.size + 1, 1, none⟩ = some (.slice ya2 b.2.length yc2) := by rw [hWe]; simp [go_sem]
  have hR : W.heap[w.heap.size + 1 + 1]? = some (.cells #[.slice none 0 0, .slice none 0 0] 26 (0, 0)) := by
    rw [hWe]
    have := heap_alloc_new ((w.alloc (.cells #[.slice xa1 a.1.length xc1, .slice xa2 a.2.length xc2] 37)).alloc (.cells #[.slice ya1 b.1.length yc1, .slice ya2 b.2.length yc2] 37)) (.cells #[.slice none 0 0, .slice none 0 0] 26)
    simpa only [World.size_alloc] using this
  have HWE := Lib.hid hWe
  have HX := Lib.hid (And.intro (And.intro hc0 hc1) (And.intro (And.intro hd0 hd1) (And.intro hR hW)))
  clear hWe hc0 hc1 hd0 hd1 hR hW
  have hent := provC_ent a b cl
  cases hp : provC a b cl with
  | none =>
    rw [hp] at hent
    have HE := Lib.hid hent
    have HR := Lib.hid (show proveR a b cl = ([], []) by rw [proveR, hp])
    clear hent hp
    go_enter Tryz.func24, Tryz.ntmps24
    go_upto_region 1 with fail
    rw [← HWE.out]
    obtain ⟨⟨hc0, hc1⟩, ⟨hd0, hd1⟩, hR, hW⟩ := HX.out
    go_wp2_with fail
    refine (cb (entCaseS_any _ _ _ _ _ a b cl _ (h1.keep hW) (h2.keep hW) (k1.keep hW) (k2.keep hW) (j1.keep hW)) HE.out).mono ?_
    rintro e w1 ⟨rfl, hb⟩
    have hR1 := box_keep hR hb
    have r0 := box0 hR1
    have r1 := box1 hR1
    have rz0 := boxz hR1 0
    have rz1 := boxz hR1 1
    have hzz := box_lt hR1
    have HB := Lib.hid (bt hW hb)
    clear hb hR hW hc0 hc1 hd0 hd1
    go_wp2
    refine bodyPost_ret (v := .tuple #[.agg #[.slice none 0 0, .slice none 0 0], .bool false]) (by simp [results, Tryz.results24, go_sem, r0, r1]) rfl ?_
    exact ⟨_, _, rfl, ⟨by rw [HR.out]; exact .inl ⟨_, _, rfl, rfl, by decide, by simp⟩, by rw [HR.out]; exact .inl ⟨_, _, rfl, rfl, by decide, by simp⟩⟩, HB.out.trans Bl⟩
  | some us0 =>
    rw [hp] at hent
    obtain ⟨⟨⟨ha, hb⟩, hr⟩, hm, mF, hall⟩ := provC_some hp
    have hlen := read_len hr
    have fa := asn_all' ha
    have fb := asn_all' hb
    have HE := Lib.hid hent
    have HR := Lib.hid (show proveR a b cl = (cl, us0) by rw [proveR, hp])
    have HLN := Lib.hid (And.intro hlen (And.intro (show a.2.length ≤ 1048576 by have := fa.2; omega) (show b.2.length ≤ 1048576 by have := fb.2; omega)))
    have HAT := Lib.hid (And.intro fa.1.2 fb.1.2)
    have HKD := Lib.hid (filled_kinds (cl := cl) fb.1.2)
    have h6 := Nat.le_trans (filledL_len cl a.2) fa.2
    have hr6 := Nat.le_trans (filledL_len cl b.2) fb.2
    obtain ⟨left, hleft⟩ : ∃ l, filledL cl a.2 = l := ⟨_, rfl⟩
    obtain ⟨right, hright⟩ : ∃ l, filledL cl b.2 = l := ⟨_, rfl⟩
    rw [hleft, hright] at hall
    rw [hleft] at h6
    rw [hright] at hr6
    have HALL := Lib.hid hall
    have HL := Lib.hid (And.intro hleft hright)
    rw [HL.out.2] at HKD
    clear hent hp ha hb hr hm hlen fa fb hall hleft hright
    go_enter Tryz.func24, Tryz.ntmps24
    go_upto_region 1 with fail
    rw [← HWE.out]
    obtain ⟨⟨hc0, hc1⟩, ⟨hd0, hd1⟩, hR, hW⟩ := HX.out
    go_wp2_with fail
    refine (cb (entCaseS_any _ _ _ _ _ a b cl _ (h1.keep hW) (h2.keep hW) (k1.keep hW) (k2.keep hW) (j1.keep hW)) HE.out).mono ?_
    rintro e w1 ⟨rfl, hb⟩
    replace hR := box_keep hR hb
    replace hc0 := cell_keep hb hc0; replace hc1 := cell_keep hb hc1; replace hd0 := cell_keep hb hd0; replace hd1 := cell_keep hb hd1; replace hW := bt hW hb; clear hb
    go_wp2_with fail
    refine (filledS_any _ _ cl a.2 _ (j1.keep hW) HLN.out.1 (h2.keep hW) HAT.out.1 HLN.out.2.1).mono ?_
    rintro e w2 ⟨vL, rfl, hL, hb⟩
    rw [HL.out.1] at hL
    have hLr := hL.rl
    obtain ⟨la, lc, rfl⟩ := hLr.form
    replace hR := box_keep hR hb
    replace hd0 := cell_keep hb hd0; replace hd1 := cell_keep hb hd1; replace hW := bt hW hb; clear hb
    clear hL
    go_wp2_with fail
    refine (filledS_any _ _ cl b.2 _ (j1.keep hW) HLN.out.1 (k2.keep hW) HAT.out.2 HLN.out.2.2).mono ?_
    rintro e w3 ⟨vR, rfl, hRg, hb⟩
    rw [HL.out.2] at hRg
    have hRr := hRg.rl
    obtain ⟨ra, rc, rfl⟩ := hRr.form
    replace hR := box_keep hR hb
    replace hLr := hLr.keep hb
    replace hW := bt hW hb; clear hb
    have hzz := box_lt hR
    clear hRg
    obtain ⟨i0, hi, hz0, hz1, hz2⟩ := info_parts info_bool9
    have HRR := Lib.hid hR
    clear hR
    go_upto_region 6 with (at_make; refine wpList_make_full _ rfl _ _ 76 rfl w3.heap.size 4 i0 (.bool false) 1 Tryz.underlying76 hi hz0 hz1 _ _ _ _ left.length rfl rfl rfl rfl (by rw [hz2]; omega) (by unfold maxLen; omega) (Nat.le_refl _) ?_; intro w4 hown hgr)
    have hb4 := (grown_fr hgr).below (B := w3.heap.size) (Nat.le_refl _) (by intro k _ e; cases e)
    have e : (madeCells (Value.bool false).cells (left.length * 1)).toList = boolsN left.length 0 := by
      rw [show (Value.bool false).cells = #[Value.bool false] from rfl, toList_madeCells_one, Nat.mul_one, bools_zero]
    rw [e] at hown
    have HB4 := Lib.hid (And.intro (bw_own hown) hb4)
    have hj4 := j1.keep (bt hW hb4)
    have hz34 := hb4.size
    clear hown hgr e hi hz0 hz1 hz2 hb4
    go_wp2_with (at_builtin; go_must (refine app_copy0 rfl (.tmp 30) (.tmp 31) rfl rfl rfl hj4 (by have := HLN.out.1; omega) (by have := HLN.out.1; omega) ?_; intro g2 cap w5 hown5 hb5))
    have bl5 := (below_alloc w5 (.cells #[.slice (some ⟨g2, 0, none⟩) cl.length cap, .slice none 0 0] 26))
    have hboxP := heap_alloc_new w5 (.cells #[.slice (some ⟨g2, 0, none⟩) cl.length cap, .slice none 0 0] 26)
    have hzP : (w5.alloc (.cells #[.slice (some ⟨g2, 0, none⟩) cl.length cap, .slice none 0 0] 26)).heap.size = w5.heap.size + 1 := by simp
    generalize w5.alloc (.cells #[.slice (some ⟨g2, 0, none⟩) cl.length cap, .slice none 0 0] 26) = wP at bl5 hboxP hzP ⊢
    have hg2 : w4.heap.size ≤ g2 ∧ g2 < w5.heap.size := own_lt hown5 rfl
    have hb4 := HB4.out.2
    have hbP := bt hb5 bl5
    have h45 := hb5.size
    have hgw : w3.heap.size < w4.heap.size := HB4.out.1.lt
    have HP0 := Lib.hid (And.intro hboxP (HB4.out.1.keep hbP))
    have HLL := Lib.hid (And.intro (hLr.lt.keep (bt hb4 hbP)) (hRr.lt.keep (bt hb4 hbP)))
    have HEND := Lib.hid (And.intro (own_keep hown5 bl5) (And.intro (bt (bt hW hb4) hbP) (box_keep HRR.out (bt hb4 hbP))))
    clear hown5 hb5 bl5 hboxP hb4 hbP hLr hRr hj4
    obtain ⟨P, hP⟩ : ∃ P, w5.heap.size = P := ⟨_, rfl⟩
    obtain ⟨g, hg⟩ : ∃ g, w3.heap.size = g := ⟨_, rfl⟩
    rw [hP] at hzP hg2 h45 HP0 ⊢
    rw [hg] at hgw HP0 HLL hzz ⊢
    clear hP hg hW hz34 HB4
    go_loopg [12] right.length (fun q i wr => ∃ (k m : Nat) (us : List (List Int)) (vu : Value), k + q = right.length ∧ i = .int .i64 k ∧ goalsU left (right.take k) 0 = some (m, us) ∧ us.length = k ∧ wr.heap[P]? = some (.cells #[.slice (some ⟨g2, 0, none⟩) cl.length cap, vu] 26 (0, 0)) ∧
      PL wr (P + 1) vu us.length us us.length ∧ BW wr g left.length m ∧ Fr (fun j => j = g ∨ j = P) wP wr)
    case atStart => exact ⟨0, 0, [], _, by omega, rfl, rfl, rfl, HP0.out.1, (OO.nil _ _).pl, HP0.out.2, Fr.refl _ _⟩
    case round =>
      obtain ⟨k, m, us, vu, hk, rfl, hgo, hlk, hbox, hpl, hbw, hf⟩ := hrel
      have HK := Lib.hid hk
      have HF := Lib.hid hf
      have HLK := Lib.hid hlk
      have hzw := hf.size
      clear hk
      by_cases hk8 : k < right.length
      · have hki : (k : Int) < (right.length : Int) := by omega
        have hus6 : us.length ≤ 6 := by omega
        have hq := HLL.out.1.kept hf (fun j _ hj e => by have : j < g := hj; omega)
        obtain ⟨ra', rc', hre, _, _, hrf⟩ := (HLL.out.2.kept hf (fun j _ hj e => by have : j < g := hj; omega)).atomAt
        simp only [Value.slice.injEq] at hre
        obtain ⟨rfl, _, rfl⟩ := hre
        obtain ⟨b1, o1, rfl, hs1, hzc, hp1, hp2, hp3⟩ := hrf k hk8
        have hn1 : ¬ b1 = g := fun e => by have : b1 < g := hs1; omega
        obtain ⟨m', u, hgu, hgo'⟩ := goals_go HALL.out hk8 hgo
        have hkd := HKD.out _ (gd_mem hk8)
        obtain ⟨x, hxe⟩ : ∃ x, gd right k = x := ⟨_, rfl⟩
        obtain ⟨x1, x2, x3⟩ := x
        rw [hxe] at hp1 hp2 hp3 hgu hkd
        simp only at hp1 hp2 hp3
        obtain ⟨ua, uc, hvu⟩ := hpl.done.form
        subst hvu
        have HN := Lib.hid hgo'
        have HGU := Lib.hid (And.intro hgu hkd)
        have HPL := Lib.hid hpl
        have HBW := Lib.hid (And.intro hbw hq)
        have d1 := box1 hbox
        have dz := boxz hbox 1
        have HBOX := Lib.hid hbox
        clear hrf hgo hxe hf hlk hgo' hgu hkd hpl hbw hq
        go_wp2
        have hPw : P + 1 ≤ wr.heap.size := by omega
        have hne : ¬ P = g := by omega
        go_region_law (first
          | (go_simp; go_at_call 44; go_must (refine (l16Goal_any _ g left.length m m' left (x1, x2, x3) u _ (HBW.out.2.keep (below_drew _)) (fun j hj e => by have : j < g := hj; omega) (HBW.out.1.keep (below_drew _)) h6 HGU.out.2 HGU.out.1).mono ?_; rintro e w6 ⟨v6, rfl, hu6, hbw6, hf6⟩; obtain ⟨ga, gc, rfl, _⟩ := own_form hu6; have hfq : Fr (fun j => j = g) wr w6 := ((Below.fr (below_drew wr)).mono (S' := fun j => j = g) fun _ _ h => h.elim).trans hf6; have box6 := box_kept HBOX.out hfq hne; have d16 := box1 box6; have hz6 := box_lt box6; obtain ⟨xs, hown, hgrow⟩ := HPL.out.grow (hfq.thenB (below_alloc w6 (.cells #[.slice ga u.length gc] 23))) (fun j hj _ e => by omega) hPw; have H6 := Lib.hid (And.intro hu6 (And.intro hbw6 (And.intro hfq box6))); have HGR := Lib.hid hgrow; have hsz6 := hfq.size; clear hu6 hbw6 hf6 hfq box6 hgrow))
          | (refine step_cells (n := us.length) (m := 1) (news := [.slice ga u.length gc]) rfl (.tmp 41) (.tmp 49) _ rfl (B := P + 1) ti_ints rfl hown rfl rfl (news1 _ _ _) (one1 _ _ _) (by omega) (by simp; omega) ?_; intro v' w7 hr7 hf7 hl7; obtain ⟨za, zc, rfl, _⟩ := own_form hr7; have box7 := box_kept (box_keep H6.out.2.2.2 (below_alloc w6 (.cells #[.slice ga u.length gc] 23))) hf7 (fun e => Nat.not_le.2 (Nat.lt_succ_self P) (own_lt hown e).1); have d7 := box1 box7; have z7 := boxz box7 1; have hz7 := box_lt box7))
        all_goals
          obtain ⟨fx, hOL, hfx⟩ := OO.ints (own_mono (B' := wr.heap.size) H6.out.1 (by simp))
          have hx : Own.own (w6.alloc (.cells #[.slice ga u.length gc] 23)) wr.heap.size u [.slice ga u.length gc] fx := ⟨_, rfl, hOL.keep (below_alloc _ _)⟩
          have hpl7 := HGR.out u _ fx _ w7 hx hfx hf7 hr7 hl7
          have hn7 := fun (j : Nat) (hj : j < P + 1) (e : some j = _) => Nat.not_le.2 hj (own_lt hown e).1
          have hpl8 := (hpl7.done.kept (fr_set w7 ⟨P, 1, none⟩ (.slice za (us.length + 1) zc)) (fun k hk _ e => by have e' : k = P := e; omega)).pl
          have hbw8 := (((H6.out.2.1.keep (below_alloc w6 (.cells #[.slice ga u.length gc] 23))).kept hf7 (hn7 g (by omega))).kept (fr_set w7 ⟨P, 1, none⟩ (.slice za (us.length + 1) zc)) (fun e => hne e.symm))
          have hF8 := (((HF.out.then H6.out.2.2.1 (fun i _ e => .inl e)).thenB (below_alloc w6 (.cells #[.slice ga u.length gc] 23))).then hf7 (fun j hj e => absurd e (hn7 j (by omega)))).then (fr_set w7 ⟨P, 1, none⟩ (.slice za (us.length + 1) zc)) (fun j _ e => .inr e)
          have H8 := Lib.hid (And.intro (box_set1 box7 (.slice za (us.length + 1) zc)) (And.intro hpl8 (And.intro hbw8 hF8)))
          clear hpl7 hpl8 hbw8 hF8 hx hOL hfx hr7 hf7 hl7 box7 d7 z7 hown d16 hn7
          go_wp2
          go_roundg (gk - 1)
          case rel => exact ⟨k + 1, m', us ++ [u], _, by have := HK.out; omega, by go_num, HN.out, by rw [List.length_append, HLK.out]; rfl, H8.out.1, H8.out.2.1, H8.out.2.2.1, H8.out.2.2.2⟩
          case measure => have := HK.out; omega
      · obtain rfl : k = right.length := by have := HK.out; omega
        rw [List.take_length, HALL.out] at hgo
        simp only [Option.some.injEq, Prod.mk.injEq] at hgo
        obtain ⟨rfl, rfl⟩ := hgo
        obtain ⟨ua, uc, hvu⟩ := hpl.done.form
        subst hvu
        have d0 := box0 hbox
        have d1 := box1 hbox
        have hR7 := box_kept HEND.out.2.2 hf (fun e => by omega)
        have r0 := box0 hR7
        have r1 := box1 hR7
        have rz0 := boxz hR7 0
        have rz1 := boxz hR7 1
        have hzr := box_lt hR7
        have hW7 := HEND.out.2.1.trans (hf.below HEND.out.2.1.size fun k hk e => by omega)
        have hFF : Fr (fun j => j = w.heap.size + 1 + 1) wr ((wr.setCell ⟨w.heap.size + 1 + 1, 0, none⟩ (.slice (some ⟨g2, 0, none⟩) cl.length cap)).setCell ⟨w.heap.size + 1 + 1, 1, none⟩ (.slice ua us0.length uc)) := (fr_set wr ⟨w.heap.size + 1 + 1, 0, none⟩ (.slice (some ⟨g2, 0, none⟩) cl.length cap)).then (fr_set _ ⟨w.heap.size + 1 + 1, 1, none⟩ (.slice ua us0.length uc)) fun _ _ e => e
        have hY3 := (own_ints HEND.out.1).1.rl.more (S' := fun k => k = g2) (fun k _ hk => by have h2 : some k = some g2 := hk; exact Option.some.inj h2)
        have hY1 := (hY3.kept hf (fun k _ hk e => by omega)).more (S' := fun k => w.heap.size + 3 ≤ k) (fun k _ hk => by omega)
        have hY0 : RL wr (fun k => P + 1 ≤ k) (.slice ua us0.length uc) us0 := hpl.done.read
        have hPl : w.heap.size + 3 ≤ P + 1 := by omega
        have hY2 := hY0.more (S' := fun k => w.heap.size + 3 ≤ k ∧ P + 1 ≤ k) (fun k _ hk => ⟨Nat.le_trans hPl hk, hk⟩)
        have hE := Lib.hid (And.intro ((hY1.kept hFF (fun k _ hk e => by omega)).more (S' := fun k => w.heap.size ≤ k) (fun k _ hk => by omega)) (And.intro ((hY2.kept hFF (fun k _ hk e => by have := hk.1; omega)).more (S' := fun k => w.heap.size ≤ k) (fun k _ hk => by have := hk.1; omega)) (hW7.trans (hFF.below hW7.size fun k hk e => by omega))))
        clear hf hbox hpl hbw hR7 hW7 hFF hY1 hY2 hlk
        go_wp2
        refine bodyPost_ret (v := .tuple #[.agg #[.slice (some ⟨g2, 0, none⟩) cl.length cap, .slice ua us0.length uc], .bool true]) (by simp [results, Tryz.results24, go_sem, r0, r1]) rfl ?_
        exact ⟨_, _, rfl, ⟨by rw [HR.out]; exact hE.out.1, by rw [HR.out]; exact hE.out.2.1⟩, hE.out.2.2⟩
end Go.Proofs.YtdjfdopgjlbloaaGreatDoor
/- Walks: the proof of a case: the program. -/
namespace Go.Proofs.YtdjfdopgjlbloaaGreatDoor
open Go.RowKit

/-- The same, the flag by a name. -/
def provB (a b : Asn) (cl : List Int) : Bool := (provC a b cl).isSome
theorem proveS_any {S1 S2 S3 S4 S5 : Nat → Prop} (v1 v2 u1 u2 cv : Value) (a b : Asn) (cl : List Int) (w : World) (h1 : RL w S1 v1 a.1) (h2 : RL w S2 v2 a.2) (k1 : RL w S3 u1 b.1) (k2 : RL w S4 u2 b.2) (j1 : RL w S5 cv cl) :
    Calls Tryz.prog 24 #[.agg #[v1, v2], .agg #[u1, u2], cv] w fun e w' => ∃ y1 y2, e = .returned (.tuple #[.agg #[y1, y2], .bool (provB a b cl)]) ∧ (RL w' (fun k => w.heap.size ≤ k) y1 (proveR a b cl).1 ∧ RL w' (fun k => w.heap.size ≤ k) y2 (proveR a b cl).2) ∧ Below w.heap.size w w' :=
  proveCaseS_any v1 v2 u1 u2 cv a b cl w h1 h2 k1 k2 j1.ints
end Go.Proofs.YtdjfdopgjlbloaaGreatDoor

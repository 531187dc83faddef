/- CaseC: texts Case9, Case10, Case11, Case12 in one. -/
import Derived.Test.YtapoillhgimdiaaRCaseB
/- Walks: atoms that an atom uses: the reference. -/
namespace Go.Proofs.Ytapoillhgimdiaa
open Go.RowKit

/-- The bools that stand for the first n numbers of a set. -/
def boolsN (n m : Nat) : List Value := (List.range n).map fun k => .bool (m.testBit k)
theorem bools_at {n m k : Nat} (h : k < n) : (boolsN n m)[k]? = some (.bool (m.testBit k)) := by simp [boolsN, h]
theorem bools_len (n m : Nat) : (boolsN n m).length = n := by simp [boolsN]
theorem bools_set {n m k : Nat} (_h : k < n) : (boolsN n m).set k (.bool true) = boolsN n (m ||| 2 ^ k) := by
  apply List.ext_getElem?
  intro i
  rw [List.getElem?_set]
  by_cases hi : i < n
  · rw [bools_at hi, bools_at hi, testBit_or_pow]
    by_cases hk : k = i
    · subst hk; simp [boolsN, hi]
    · simp [hk]
  · have h1 : (boolsN n m)[i]? = none := by simp [boolsN]; omega
    have h2 : (boolsN n (m ||| 2 ^ k))[i]? = none := by simp [boolsN]; omega
    rw [h1, h2]
    by_cases hk : k = i
    · subst hk; omega
    · simp [hk]
def usedGo (left : List Atom) (B : Int) (cl : Bool) : List Int → Nat → Nat → Int → Option (Nat × Int)
  | [], _, m, A => some (m, A)
  | k :: r, i, m, A =>
    if k < 0 ∨ (left.length : Int) ≤ k then none
    else if m.testBit k.toNat = true then none
    else if (gd left k.toNat).2.1 ≠ A then none
    else if 0 < i ∧ A = B then none
    else if (((gd left k.toNat).1 == 2) && ((gd left k.toNat).2.2 != B && !cl)) = true then none
    else usedGo left B cl r (i + 1) (m ||| 2 ^ k.toNat) (gd left k.toNat).2.2
/-- How a way ends. -/
def usedEnd (left : List Atom) (x : Atom) (us : List Int) (A : Int) : Bool :=
  if x.1 = 1 then (us.length == 1) && decide (gd left (gi us 0).toNat = x) else decide (0 < us.length) && (A == x.2.2)
def usedO (left : List Atom) (x : Atom) (m : Nat) (us : List Int) : Option Nat :=
  match usedGo left x.2.2 (clsdB left x.2.2) us 0 m x.2.1 with
  | none => none
  | some (m', A) => if usedEnd left x us A = true then some m' else none
theorem usedO_none {left : List Atom} {x : Atom} {m : Nat} {us : List Int} (h : usedGo left x.2.2 (clsdB left x.2.2) us 0 m x.2.1 = none) : usedO left x m us = none := by rw [usedO, h]
theorem usedO_some {left : List Atom} {x : Atom} {m m' : Nat} {A : Int} {us : List Int} (h : usedGo left x.2.2 (clsdB left x.2.2) us 0 m x.2.1 = some (m', A)) : usedO left x m us = if usedEnd left x us A = true then some m' else none := by rw [usedO, h]
theorem usedGo_first {left : List Atom} {B : Int} {cl : Bool} {us : List Int} {i m : Nat} {A : Int} {p : Nat × Int} (h : usedGo left B cl us i m A = some p) (hl : 0 < us.length) : 0 ≤ gi us 0 ∧ gi us 0 < left.length := by
  cases us with
  | nil => simp at hl
  | cons k r =>
    unfold usedGo at h
    split at h
    · simp at h
    · rename_i hk
      show 0 ≤ k ∧ k < left.length
      omega

set_option maxRecDepth 100000 in
set_option maxHeartbeats 12800000 in
theorem l16Used_any {S S2 : Nat → Prop} (v lv : Value) (g uc B0 : Nat) (left : List Atom) (x : Atom) (us : List Int) (m0 : Nat) (w : World) (h : RL w S v left) (hS : ∀ k, S k → ¬ k = g) (hu : RL w S2 lv us) (hU : ∀ k, S2 k → ¬ k = g)
    (ho : w.ownsRow B0 4 1 (.slice (some ⟨g, 0, none⟩) left.length uc) left.length (boolsN left.length m0)) :
    Calls Try.prog 194 #[v, .slice (some ⟨g, 0, none⟩) left.length uc, .agg #[.int .i64 x.1, .int .i64 x.2.1, .int .i64 x.2.2], lv] w fun e w' => e = .returned (.bool (usedO left x m0 us).isSome) ∧ ∃ m', w'.ownsRow B0 4 1 (.slice (some ⟨g, 0, none⟩) left.length uc) left.length (boolsN left.length m') ∧ (∀ n, usedO left x m0 us = some n → n = m') ∧ Fr (fun k => k = g) w w' := by
  have hm := h.len
  have hmu := hu.len
  unfold maxLen at hm hmu
  have HL := Lib.hid h
  obtain ⟨a, c, rfl, _, _, hf1⟩ := h.atomAt
  have F1 := Lib.hid hf1
  have HU := Lib.hid hu
  have HS := Lib.hid hS
  have HUG := Lib.hid hU
  obtain ⟨ua, uc1, rfl⟩ := hu.form
  obtain ⟨x1, x2, x3⟩ := x
  simp only
  have hgl := (ho.lt g rfl).2
  obtain ⟨cl, hcl⟩ : ∃ b, clsdB left x3 = b := ⟨_, rfl⟩
  obtain ⟨R, hR⟩ : ∃ r, usedGo left x3 cl us 0 m0 x2 = r := ⟨_, rfl⟩
  have hno : R = none → usedO left (x1, x2, x3) m0 us = none := fun hr => usedO_none (by rw [hcl, hR, hr])
  have hso : ∀ m' A, R = some (m', A) → usedO left (x1, x2, x3) m0 us = if usedEnd left (x1, x2, x3) us A = true then some m' else none := fun m' A hr => usedO_some (by rw [hcl, hR, hr])
  have HNO := Lib.hid hno
  have HSO := Lib.hid hso
  obtain ⟨bg, hbg⟩ : ∃ b, (left.any fun y => y.2.1 == x3) = b := ⟨_, rfl⟩
  have HBG := Lib.hid hbg
  have hcl' : cl = ((x3 == 0) || bg) := by rw [← hcl, clsdB, hbg]
  have HR := Lib.hid hR
  have HO0 := Lib.hid ho
  clear hf1 h hS hu hU hcl hR hno hso hbg ho
  go_enter Try.func194, Try.ntmps194
  go_wp2
  go_loopg [9, 10] us.length (fun q y i wr => ∃ (k m : Nat) (A : Int), k + q = us.length ∧ i = .int .i64 k ∧ y = .int .i64 A ∧ R = usedGo left x3 cl (us.drop k) k m A ∧ wr.ownsRow B0 4 1 (.slice (some ⟨g, 0, none⟩) left.length uc) left.length (boolsN left.length m) ∧ (wr.cell? ⟨w.heap.size, 0, none⟩ = some (.int .i64 x1) ∧ wr.cell? ⟨w.heap.size, 2, none⟩ = some (.int .i64 x3)) ∧ (wr.cell? ⟨w.heap.size, 1, none⟩ = some (.int .i64 x2)) ∧ Fr (fun k => k = g) w wr)
  case atStart => exact ⟨0, m0, x2, by omega, rfl, rfl, HR.out.symm, HO0.out.alloc _, ⟨by simp [go_sem], by simp [go_sem]⟩, by simp [go_sem], (Below.fr (below_alloc _ _)).mono fun _ _ h => h.elim⟩
  case round =>
    obtain ⟨k, m, A, hk, rfl, rfl, hus, ho, ⟨hd0, hd2⟩, hd1, hfr⟩ := hrel
    have HK := Lib.hid hk
    have HUS := Lib.hid hus
    have HO := Lib.hid ho
    have HFR := Lib.hid hfr
    have hzd : w.heap.size < wr.heap.size := World.block_lt_of_cell? wr _ hd0
    have hzs := hfr.size
    have hgr : g < wr.heap.size := by omega
    have hngd : ¬ w.heap.size = g := by omega
    have hrl := HL.out.kept hfr (fun j _ hj e => HS.out j hj e)
    have HRL := Lib.hid hrl
    clear hk hus ho hfr hrl
    by_cases hk8 : k < us.length
    · have hki : (k : Int) < (us.length : Int) := by omega
      obtain ⟨gb, go_, gc, hfe, _, _, hcell⟩ := (HU.out.kept HFR.out (fun j _ hj e => HUG.out j hj e)).ints.ne (by omega)
      simp only [Value.slice.injEq] at hfe
      obtain ⟨rfl, hh, rfl⟩ := hfe
      clear hh
      have hck := hcell k hk8
      have hzb : gb < wr.heap.size := World.block_lt_of_cell? wr _ hck
      obtain ⟨I, hI⟩ : ∃ x, gi us k = x := ⟨_, rfl⟩
      rw [hI] at hck
      have hst := drop_gi hk8
      rw [hI] at hst
      rw [hst] at HUS
      clear hcell hI hst
      by_cases hI0 : I < 0
      · have HF := Lib.hid (HNO.out (by rw [HUS.out, usedGo, if_pos (Or.inl hI0)]))
        go_wp2
        go_ret
        refine ⟨?_, m, HO.out, ?_, HFR.out⟩
        · rw [HF.out]; rfl
        · intro n hn; rw [HF.out] at hn; cases hn
      by_cases hI1 : (left.length : Int) ≤ I
      · have HF := Lib.hid (HNO.out (by rw [HUS.out, usedGo, if_pos (Or.inr hI1)]))
        go_wp2
        go_ret
        refine ⟨?_, m, HO.out, ?_, HFR.out⟩
        · rw [HF.out]; rfl
        · intro n hn; rw [HF.out] at hn; cases hn
      obtain ⟨n, rfl⟩ := Int.eq_ofNat_of_zero_le (show 0 ≤ I by omega)
      have hnl : n < left.length := by omega
      have hni : (n : Int) < (left.length : Int) := by omega
      have hus := HUS.out
      rw [usedGo, if_neg (by omega), Int.toNat_natCast] at hus
      have hbc : wr.cell? ⟨g, n, none⟩ = some (.bool (m.testBit n)) := by
        have := HO.out.cellAt n (by omega)
        rw [bools_at hnl] at this
        simpa using this
      obtain ⟨q, hq⟩ : ∃ q, m.testBit n = q := ⟨_, rfl⟩
      rw [hq] at hbc hus
      clear hq
      cases q with
      | true =>
        have HF := Lib.hid (HNO.out (by rw [hus]; rfl))
        clear hus
        go_wp2
        go_ret
        refine ⟨?_, m, HO.out, ?_, HFR.out⟩
        · rw [HF.out]; rfl
        · intro n hn; rw [HF.out] at hn; cases hn
      | false =>
        rw [if_neg (by decide)] at hus
        obtain ⟨b1, o1, rfl, _, hbl1, hp1, hp2, hp3⟩ := F1.out n hnl
        have hS1 : ¬ b1 = g := by
          obtain ⟨b2, o2, he, hs2, _⟩ := F1.out n hnl
          obtain ⟨rfl, rfl⟩ : b1 = b2 ∧ o1 = o2 := by simpa using he
          exact HS.out _ hs2
        replace hp1 := HFR.out.cell (p := ⟨b1, o1 + n * 3, none⟩) hS1 hp1
        replace hp2 := HFR.out.cell (p := ⟨b1, o1 + n * 3 + 1, none⟩) hS1 hp2
        replace hp3 := HFR.out.cell (p := ⟨b1, o1 + n * 3 + 2, none⟩) hS1 hp3
        have hzc : b1 < wr.heap.size := World.block_lt_of_cell? wr _ hp1
        obtain ⟨K1, hK1⟩ : ∃ x, (gd left n).1 = x := ⟨_, rfl⟩
        obtain ⟨A1, hA1⟩ : ∃ x, (gd left n).2.1 = x := ⟨_, rfl⟩
        obtain ⟨B1, hB1⟩ : ∃ x, (gd left n).2.2 = x := ⟨_, rfl⟩
        rw [hK1] at hp1 hus
        rw [hA1] at hp2 hus
        rw [hB1] at hp3 hus
        clear hK1 hA1 hB1
        by_cases hA : A1 = A
        rotate_left
        · have hab : (A1 != A) = true := by simp [hA]
          have HF := Lib.hid (HNO.out (by rw [hus, if_pos hA]))
          clear hus hA
          go_wp2
          go_ret
          refine ⟨?_, m, HO.out, ?_, HFR.out⟩
          · rw [HF.out]; rfl
          · intro n hn; rw [HF.out] at hn; cases hn
        have hab : (A1 != A) = false := by simp [hA]
        rw [if_neg (by simp [hA])] at hus
        clear hA
        by_cases hk0 : 0 < k
        · have hkg : (0 : Int) < (k : Int) := by omega
          by_cases hAB : A = x3
          · have habb : (A == x3) = true := by simp [hAB]
            have HF := Lib.hid (HNO.out (by rw [hus, if_pos ⟨hk0, hAB⟩]))
            clear hus hAB
            go_wp2
            go_ret
            refine ⟨?_, m, HO.out, ?_, HFR.out⟩
            · rw [HF.out]; rfl
            · intro n hn; rw [HF.out] at hn; cases hn
          · have habb : (A == x3) = false := by simp [hAB]
            rw [if_neg (by simp [hAB])] at hus
            clear hAB
            by_cases hK : K1 = 2
            rotate_left
            · have hkk : (K1 == 2) = false := by simp [hK]
              have HN := Lib.hid (show R = usedGo left x3 cl (us.drop (k + 1)) (k + 1) (m ||| 2 ^ n) B1 by rw [hus, if_neg (by rw [hkk]; simp)])
              clear hus hcl' hK
              go_wp2
              refine wp_region_ext (by kernel_rfl) (by kernel_rfl) ?_
              repeat (go_big_quiet_step ((fail)))
              refine wpQuiet_nil ?_
              intro w5 hb5
              have ho5 := own_keep HO.out hb5
              have hf5 : Fr (fun k => k = g) w w5 := HFR.out.trans ((Below.fr hb5).mono fun _ _ h => h.elim)
              have hz5 : w5.frozen? ⟨g, n, none⟩ = false := by simpa using ho5.frozenAt n
              have hy5 := cell_keep hb5 hbc
              obtain ⟨s1, g1⟩ := ho5.stored n (.bool true)
              rw [bools_set hnl] at s1
              have f1 := grown_fr g1
              have hf6 := hf5.trans (f1.mono fun k _ e => by simpa using e)
              have hq3 := f1.cell (p := ⟨b1, o1 + n * 3 + 2, none⟩) (fun e => hS1 (by simpa using e)) (cell_keep hb5 hp3)
              have hq0 := f1.cell (p := ⟨w.heap.size, 0, none⟩) (fun e => hngd (by simpa using e)) (cell_keep hb5 hd0)
              have hq1 := f1.cell (p := ⟨w.heap.size, 1, none⟩) (fun e => hngd (by simpa using e)) (cell_keep hb5 hd1)
              have hq2 := f1.cell (p := ⟨w.heap.size, 2, none⟩) (fun e => hngd (by simpa using e)) (cell_keep hb5 hd2)
              have HQ := Lib.hid (And.intro (And.intro s1 hf6) (And.intro hq3 (And.intro hq0 (And.intro hq1 hq2))))
              clear s1 g1 f1 hf6 hq3 hq0 hq1 hq2 ho5 hf5
              go_upto_region 11 with fail
              generalize w5.setCell ⟨g, n, none⟩ (.bool true) = w6 at HQ ⊢
              have hq3 := HQ.out.2.1
              clear hp3
              go_wp2
              go_roundg (gk - 1)
              case rel => exact ⟨k + 1, m ||| 2 ^ n, B1, by have := HK.out; omega, by go_num, rfl, HN.out, HQ.out.1.1, ⟨HQ.out.2.2.1, HQ.out.2.2.2.2⟩, HQ.out.2.2.2.1, HQ.out.1.2⟩
              case measure => have := HK.out; omega
            have hkk : (K1 == 2) = true := by simp [hK]
            by_cases hB : B1 = x3
            · have hbb : (B1 != x3) = false := by simp [hB]
              have HN := Lib.hid (show R = usedGo left x3 cl (us.drop (k + 1)) (k + 1) (m ||| 2 ^ n) B1 by rw [hus, if_neg (by rw [hbb]; simp)])
              clear hus hcl' hK hB
              go_wp2
              refine wp_region_ext (by kernel_rfl) (by kernel_rfl) ?_
              repeat (go_big_quiet_step ((fail)))
              refine wpQuiet_nil ?_
              intro w5 hb5
              have ho5 := own_keep HO.out hb5
              have hf5 : Fr (fun k => k = g) w w5 := HFR.out.trans ((Below.fr hb5).mono fun _ _ h => h.elim)
              have hz5 : w5.frozen? ⟨g, n, none⟩ = false := by simpa using ho5.frozenAt n
              have hy5 := cell_keep hb5 hbc
              obtain ⟨s1, g1⟩ := ho5.stored n (.bool true)
              rw [bools_set hnl] at s1
              have f1 := grown_fr g1
              have hf6 := hf5.trans (f1.mono fun k _ e => by simpa using e)
              have hq3 := f1.cell (p := ⟨b1, o1 + n * 3 + 2, none⟩) (fun e => hS1 (by simpa using e)) (cell_keep hb5 hp3)
              have hq0 := f1.cell (p := ⟨w.heap.size, 0, none⟩) (fun e => hngd (by simpa using e)) (cell_keep hb5 hd0)
              have hq1 := f1.cell (p := ⟨w.heap.size, 1, none⟩) (fun e => hngd (by simpa using e)) (cell_keep hb5 hd1)
              have hq2 := f1.cell (p := ⟨w.heap.size, 2, none⟩) (fun e => hngd (by simpa using e)) (cell_keep hb5 hd2)
              have HQ := Lib.hid (And.intro (And.intro s1 hf6) (And.intro hq3 (And.intro hq0 (And.intro hq1 hq2))))
              clear s1 g1 f1 hf6 hq3 hq0 hq1 hq2 ho5 hf5
              go_upto_region 11 with fail
              generalize w5.setCell ⟨g, n, none⟩ (.bool true) = w6 at HQ ⊢
              have hq3 := HQ.out.2.1
              clear hp3
              go_wp2
              go_roundg (gk - 1)
              case rel => exact ⟨k + 1, m ||| 2 ^ n, B1, by have := HK.out; omega, by go_num, rfl, HN.out, HQ.out.1.1, ⟨HQ.out.2.2.1, HQ.out.2.2.2.2⟩, HQ.out.2.2.2.1, HQ.out.1.2⟩
              case measure => have := HK.out; omega
            have hbb : (B1 != x3) = true := by simp [hB]
            by_cases hx0 : x3 = 0
            · have hxb : (x3 != 0) = false := by simp [hx0]
              have HN := Lib.hid (show R = usedGo left x3 cl (us.drop (k + 1)) (k + 1) (m ||| 2 ^ n) B1 by rw [hus, if_neg (by rw [hcl', hx0]; simp)])
              clear hus hcl' hK hB hx0
              go_wp2
              refine wp_region_ext (by kernel_rfl) (by kernel_rfl) ?_
              repeat (go_big_quiet_step ((fail)))
              refine wpQuiet_nil ?_
              intro w5 hb5
              have ho5 := own_keep HO.out hb5
              have hf5 : Fr (fun k => k = g) w w5 := HFR.out.trans ((Below.fr hb5).mono fun _ _ h => h.elim)
              have hz5 : w5.frozen? ⟨g, n, none⟩ = false := by simpa using ho5.frozenAt n
              have hy5 := cell_keep hb5 hbc
              obtain ⟨s1, g1⟩ := ho5.stored n (.bool true)
              rw [bools_set hnl] at s1
              have f1 := grown_fr g1
              have hf6 := hf5.trans (f1.mono fun k _ e => by simpa using e)
              have hq3 := f1.cell (p := ⟨b1, o1 + n * 3 + 2, none⟩) (fun e => hS1 (by simpa using e)) (cell_keep hb5 hp3)
              have hq0 := f1.cell (p := ⟨w.heap.size, 0, none⟩) (fun e => hngd (by simpa using e)) (cell_keep hb5 hd0)
              have hq1 := f1.cell (p := ⟨w.heap.size, 1, none⟩) (fun e => hngd (by simpa using e)) (cell_keep hb5 hd1)
              have hq2 := f1.cell (p := ⟨w.heap.size, 2, none⟩) (fun e => hngd (by simpa using e)) (cell_keep hb5 hd2)
              have HQ := Lib.hid (And.intro (And.intro s1 hf6) (And.intro hq3 (And.intro hq0 (And.intro hq1 hq2))))
              clear s1 g1 f1 hf6 hq3 hq0 hq1 hq2 ho5 hf5
              go_upto_region 11 with fail
              generalize w5.setCell ⟨g, n, none⟩ (.bool true) = w6 at HQ ⊢
              have hq3 := HQ.out.2.1
              clear hp3
              go_wp2
              go_roundg (gk - 1)
              case rel => exact ⟨k + 1, m ||| 2 ^ n, B1, by have := HK.out; omega, by go_num, rfl, HN.out, HQ.out.1.1, ⟨HQ.out.2.2.1, HQ.out.2.2.2.2⟩, HQ.out.2.2.2.1, HQ.out.1.2⟩
              case measure => have := HK.out; omega
            have hxb : (x3 != 0) = true := by simp [hx0]
            have hxc : (x3 == 0) = false := by simp [hx0]
            rw [hxc, Bool.false_or] at hcl'
            subst hcl'
            cases cl with
            | true =>
              have HN := Lib.hid (show R = usedGo left x3 true (us.drop (k + 1)) (k + 1) (m ||| 2 ^ n) B1 by rw [hus, if_neg (by simp)])
              clear hus hK hB hx0 hxc
              go_wp2
              refine wp_region_ext (by kernel_rfl) (by kernel_rfl) ?_
              repeat (go_big_quiet_step ((go_at_call 235; with_reducible exact ext_c (cb (l5Begins_any _ left x3 _ (HRL.out.keep (ext_below _ _))) HBG.out))))
              refine wpQuiet_nil ?_
              intro w5 hb5
              have ho5 := own_keep HO.out hb5
              have hf5 : Fr (fun k => k = g) w w5 := HFR.out.trans ((Below.fr hb5).mono fun _ _ h => h.elim)
              have hz5 : w5.frozen? ⟨g, n, none⟩ = false := by simpa using ho5.frozenAt n
              have hy5 := cell_keep hb5 hbc
              obtain ⟨s1, g1⟩ := ho5.stored n (.bool true)
              rw [bools_set hnl] at s1
              have f1 := grown_fr g1
              have hf6 := hf5.trans (f1.mono fun k _ e => by simpa using e)
              have hq3 := f1.cell (p := ⟨b1, o1 + n * 3 + 2, none⟩) (fun e => hS1 (by simpa using e)) (cell_keep hb5 hp3)
              have hq0 := f1.cell (p := ⟨w.heap.size, 0, none⟩) (fun e => hngd (by simpa using e)) (cell_keep hb5 hd0)
              have hq1 := f1.cell (p := ⟨w.heap.size, 1, none⟩) (fun e => hngd (by simpa using e)) (cell_keep hb5 hd1)
              have hq2 := f1.cell (p := ⟨w.heap.size, 2, none⟩) (fun e => hngd (by simpa using e)) (cell_keep hb5 hd2)
              have HQ := Lib.hid (And.intro (And.intro s1 hf6) (And.intro hq3 (And.intro hq0 (And.intro hq1 hq2))))
              clear s1 g1 f1 hf6 hq3 hq0 hq1 hq2 ho5 hf5
              go_upto_region 11 with fail
              generalize w5.setCell ⟨g, n, none⟩ (.bool true) = w6 at HQ ⊢
              have hq3 := HQ.out.2.1
              clear hp3
              go_wp2
              go_roundg (gk - 1)
              case rel => exact ⟨k + 1, m ||| 2 ^ n, B1, by have := HK.out; omega, by go_num, rfl, HN.out, HQ.out.1.1, ⟨HQ.out.2.2.1, HQ.out.2.2.2.2⟩, HQ.out.2.2.2.1, HQ.out.1.2⟩
              case measure => have := HK.out; omega
            | false =>
              have HF := Lib.hid (HNO.out (by rw [hus, if_pos (by rw [hkk, hbb]; rfl)]))
              clear hus hK hB hx0 hxc
              go_wp2
              refine wp_region_ext (by kernel_rfl) (by kernel_rfl) ?_
              repeat (go_big_quiet_step ((go_at_call 235; with_reducible exact ext_c (cb (l5Begins_any _ left x3 _ (HRL.out.keep (ext_below _ _))) HBG.out))))
              refine wpQuiet_nil ?_
              intro w5 hb5
              go_wp2
              go_ret
              exact ⟨by rw [HF.out]; rfl, m, own_keep HO.out hb5, (fun n hn => by rw [HF.out] at hn; cases hn), HFR.out.trans ((Below.fr hb5).mono fun _ _ h => h.elim)⟩
        · have hkg : ¬ (0 : Int) < (k : Int) := by omega
          rw [if_neg (by simp [hk0])] at hus
          by_cases hK : K1 = 2
          rotate_left
          · have hkk : (K1 == 2) = false := by simp [hK]
            have HN := Lib.hid (show R = usedGo left x3 cl (us.drop (k + 1)) (k + 1) (m ||| 2 ^ n) B1 by rw [hus, if_neg (by rw [hkk]; simp)])
            clear hus hcl' hK
            go_wp2
            refine wp_region_ext (by kernel_rfl) (by kernel_rfl) ?_
            repeat (go_big_quiet_step ((fail)))
            refine wpQuiet_nil ?_
            intro w5 hb5
            have ho5 := own_keep HO.out hb5
            have hf5 : Fr (fun k => k = g) w w5 := HFR.out.trans ((Below.fr hb5).mono fun _ _ h => h.elim)
            have hz5 : w5.frozen? ⟨g, n, none⟩ = false := by simpa using ho5.frozenAt n
            have hy5 := cell_keep hb5 hbc
            obtain ⟨s1, g1⟩ := ho5.stored n (.bool true)
            rw [bools_set hnl] at s1
            have f1 := grown_fr g1
            have hf6 := hf5.trans (f1.mono fun k _ e => by simpa using e)
            have hq3 := f1.cell (p := ⟨b1, o1 + n * 3 + 2, none⟩) (fun e => hS1 (by simpa using e)) (cell_keep hb5 hp3)
            have hq0 := f1.cell (p := ⟨w.heap.size, 0, none⟩) (fun e => hngd (by simpa using e)) (cell_keep hb5 hd0)
            have hq1 := f1.cell (p := ⟨w.heap.size, 1, none⟩) (fun e => hngd (by simpa using e)) (cell_keep hb5 hd1)
            have hq2 := f1.cell (p := ⟨w.heap.size, 2, none⟩) (fun e => hngd (by simpa using e)) (cell_keep hb5 hd2)
            have HQ := Lib.hid (And.intro (And.intro s1 hf6) (And.intro hq3 (And.intro hq0 (And.intro hq1 hq2))))
            clear s1 g1 f1 hf6 hq3 hq0 hq1 hq2 ho5 hf5
            go_upto_region 11 with fail
            generalize w5.setCell ⟨g, n, none⟩ (.bool true) = w6 at HQ ⊢
            have hq3 := HQ.out.2.1
            clear hp3
            go_wp2
            go_roundg (gk - 1)
            case rel => exact ⟨k + 1, m ||| 2 ^ n, B1, by have := HK.out; omega, by go_num, rfl, HN.out, HQ.out.1.1, ⟨HQ.out.2.2.1, HQ.out.2.2.2.2⟩, HQ.out.2.2.2.1, HQ.out.1.2⟩
            case measure => have := HK.out; omega
          have hkk : (K1 == 2) = true := by simp [hK]
          by_cases hB : B1 = x3
          · have hbb : (B1 != x3) = false := by simp [hB]
            have HN := Lib.hid (show R = usedGo left x3 cl (us.drop (k + 1)) (k + 1) (m ||| 2 ^ n) B1 by rw [hus, if_neg (by rw [hbb]; simp)])
            clear hus hcl' hK hB
            go_wp2
            refine wp_region_ext (by kernel_rfl) (by kernel_rfl) ?_
            repeat (go_big_quiet_step ((fail)))
            refine wpQuiet_nil ?_
            intro w5 hb5
            have ho5 := own_keep HO.out hb5
            have hf5 : Fr (fun k => k = g) w w5 := HFR.out.trans ((Below.fr hb5).mono fun _ _ h => h.elim)
            have hz5 : w5.frozen? ⟨g, n, none⟩ = false := by simpa using ho5.frozenAt n
            have hy5 := cell_keep hb5 hbc
            obtain ⟨s1, g1⟩ := ho5.stored n (.bool true)
            rw [bools_set hnl] at s1
            have f1 := grown_fr g1
            have hf6 := hf5.trans (f1.mono fun k _ e => by simpa using e)
            have hq3 := f1.cell (p := ⟨b1, o1 + n * 3 + 2, none⟩) (fun e => hS1 (by simpa using e)) (cell_keep hb5 hp3)
            have hq0 := f1.cell (p := ⟨w.heap.size, 0, none⟩) (fun e => hngd (by simpa using e)) (cell_keep hb5 hd0)
            have hq1 := f1.cell (p := ⟨w.heap.size, 1, none⟩) (fun e => hngd (by simpa using e)) (cell_keep hb5 hd1)
            have hq2 := f1.cell (p := ⟨w.heap.size, 2, none⟩) (fun e => hngd (by simpa using e)) (cell_keep hb5 hd2)
            have HQ := Lib.hid (And.intro (And.intro s1 hf6) (And.intro hq3 (And.intro hq0 (And.intro hq1 hq2))))
            clear s1 g1 f1 hf6 hq3 hq0 hq1 hq2 ho5 hf5
            go_upto_region 11 with fail
            generalize w5.setCell ⟨g, n, none⟩ (.bool true) = w6 at HQ ⊢
            have hq3 := HQ.out.2.1
            clear hp3
            go_wp2
            go_roundg (gk - 1)
            case rel => exact ⟨k + 1, m ||| 2 ^ n, B1, by have := HK.out; omega, by go_num, rfl, HN.out, HQ.out.1.1, ⟨HQ.out.2.2.1, HQ.out.2.2.2.2⟩, HQ.out.2.2.2.1, HQ.out.1.2⟩
            case measure => have := HK.out; omega
          have hbb : (B1 != x3) = true := by simp [hB]
          by_cases hx0 : x3 = 0
          · have hxb : (x3 != 0) = false := by simp [hx0]
            have HN := Lib.hid (show R = usedGo left x3 cl (us.drop (k + 1)) (k + 1) (m ||| 2 ^ n) B1 by rw [hus, if_neg (by rw [hcl', hx0]; simp)])
            clear hus hcl' hK hB hx0
            go_wp2
            refine wp_region_ext (by kernel_rfl) (by kernel_rfl) ?_
            repeat (go_big_quiet_step ((fail)))
            refine wpQuiet_nil ?_
            intro w5 hb5
            have ho5 := own_keep HO.out hb5
            have hf5 : Fr (fun k => k = g) w w5 := HFR.out.trans ((Below.fr hb5).mono fun _ _ h => h.elim)
            have hz5 : w5.frozen? ⟨g, n, none⟩ = false := by simpa using ho5.frozenAt n
            have hy5 := cell_keep hb5 hbc
            obtain ⟨s1, g1⟩ := ho5.stored n (.bool true)
            rw [bools_set hnl] at s1
            have f1 := grown_fr g1
            have hf6 := hf5.trans (f1.mono fun k _ e => by simpa using e)
            have hq3 := f1.cell (p := ⟨b1, o1 + n * 3 + 2, none⟩) (fun e => hS1 (by simpa using e)) (cell_keep hb5 hp3)
            have hq0 := f1.cell (p := ⟨w.heap.size, 0, none⟩) (fun e => hngd (by simpa using e)) (cell_keep hb5 hd0)
            have hq1 := f1.cell (p := ⟨w.heap.size, 1, none⟩) (fun e => hngd (by simpa using e)) (cell_keep hb5 hd1)
            have hq2 := f1.cell (p := ⟨w.heap.size, 2, none⟩) (fun e => hngd (by simpa using e)) (cell_keep hb5 hd2)
            have HQ := Lib.hid (And.intro (And.intro s1 hf6) (And.intro hq3 (And.intro hq0 (And.intro hq1 hq2))))
            clear s1 g1 f1 hf6 hq3 hq0 hq1 hq2 ho5 hf5
            go_upto_region 11 with fail
            generalize w5.setCell ⟨g, n, none⟩ (.bool true) = w6 at HQ ⊢
            have hq3 := HQ.out.2.1
            clear hp3
            go_wp2
            go_roundg (gk - 1)
            case rel => exact ⟨k + 1, m ||| 2 ^ n, B1, by have := HK.out; omega, by go_num, rfl, HN.out, HQ.out.1.1, ⟨HQ.out.2.2.1, HQ.out.2.2.2.2⟩, HQ.out.2.2.2.1, HQ.out.1.2⟩
            case measure => have := HK.out; omega
          have hxb : (x3 != 0) = true := by simp [hx0]
          have hxc : (x3 == 0) = false := by simp [hx0]
          rw [hxc, Bool.false_or] at hcl'
          subst hcl'
          cases cl with
          | true =>
            have HN := Lib.hid (show R = usedGo left x3 true (us.drop (k + 1)) (k + 1) (m ||| 2 ^ n) B1 by rw [hus, if_neg (by simp)])
            clear hus hK hB hx0 hxc
            go_wp2
            refine wp_region_ext (by kernel_rfl) (by kernel_rfl) ?_
            repeat (go_big_quiet_step ((go_at_call 235; with_reducible exact ext_c (cb (l5Begins_any _ left x3 _ (HRL.out.keep (ext_below _ _))) HBG.out))))
            refine wpQuiet_nil ?_
            intro w5 hb5
            have ho5 := own_keep HO.out hb5
            have hf5 : Fr (fun k => k = g) w w5 := HFR.out.trans ((Below.fr hb5).mono fun _ _ h => h.elim)
            have hz5 : w5.frozen? ⟨g, n, none⟩ = false := by simpa using ho5.frozenAt n
            have hy5 := cell_keep hb5 hbc
            obtain ⟨s1, g1⟩ := ho5.stored n (.bool true)
            rw [bools_set hnl] at s1
            have f1 := grown_fr g1
            have hf6 := hf5.trans (f1.mono fun k _ e => by simpa using e)
            have hq3 := f1.cell (p := ⟨b1, o1 + n * 3 + 2, none⟩) (fun e => hS1 (by simpa using e)) (cell_keep hb5 hp3)
            have hq0 := f1.cell (p := ⟨w.heap.size, 0, none⟩) (fun e => hngd (by simpa using e)) (cell_keep hb5 hd0)
            have hq1 := f1.cell (p := ⟨w.heap.size, 1, none⟩) (fun e => hngd (by simpa using e)) (cell_keep hb5 hd1)
            have hq2 := f1.cell (p := ⟨w.heap.size, 2, none⟩) (fun e => hngd (by simpa using e)) (cell_keep hb5 hd2)
            have HQ := Lib.hid (And.intro (And.intro s1 hf6) (And.intro hq3 (And.intro hq0 (And.intro hq1 hq2))))
            clear s1 g1 f1 hf6 hq3 hq0 hq1 hq2 ho5 hf5
            go_upto_region 11 with fail
            generalize w5.setCell ⟨g, n, none⟩ (.bool true) = w6 at HQ ⊢
            have hq3 := HQ.out.2.1
            clear hp3
            go_wp2
            go_roundg (gk - 1)
            case rel => exact ⟨k + 1, m ||| 2 ^ n, B1, by have := HK.out; omega, by go_num, rfl, HN.out, HQ.out.1.1, ⟨HQ.out.2.2.1, HQ.out.2.2.2.2⟩, HQ.out.2.2.2.1, HQ.out.1.2⟩
            case measure => have := HK.out; omega
          | false =>
            have HF := Lib.hid (HNO.out (by rw [hus, if_pos (by rw [hkk, hbb]; rfl)]))
            clear hus hK hB hx0 hxc
            go_wp2
            refine wp_region_ext (by kernel_rfl) (by kernel_rfl) ?_
            repeat (go_big_quiet_step ((go_at_call 235; with_reducible exact ext_c (cb (l5Begins_any _ left x3 _ (HRL.out.keep (ext_below _ _))) HBG.out))))
            refine wpQuiet_nil ?_
            intro w5 hb5
            go_wp2
            go_ret
            exact ⟨by rw [HF.out]; rfl, m, own_keep HO.out hb5, (fun n hn => by rw [HF.out] at hn; cases hn), HFR.out.trans ((Below.fr hb5).mono fun _ _ h => h.elim)⟩
    · obtain rfl : k = us.length := by have := HK.out; omega
      have hus := HUS.out
      rw [List.drop_length, usedGo] at hus
      have HSE := Lib.hid (HSO.out m A hus)
      have HFI := Lib.hid (fun hl : 0 < us.length => usedGo_first (by rw [HR.out]; exact hus) hl)
      clear hus
      by_cases hx1 : x1 = 1
      · have hxk : (x1 == 1) = true := by simp [hx1]
        by_cases hl1 : us.length = 1
        rotate_left
        · have hlb : ((us.length : Int) == 1) = false := by simp; omega
          have HF := Lib.hid (show usedO left (x1, x2, x3) m0 us = none by rw [HSE.out, usedEnd, if_pos hx1]; simp [hl1])
          clear hl1 hx1
          go_wp2
          refine wp_region_ext (by kernel_rfl) (by kernel_rfl) ?_
          repeat (go_big_quiet_step ((fail)))
          refine wpQuiet_nil ?_
          intro w5 hb5
          go_wp2
          go_ret
          exact ⟨by rw [HF.out]; rfl, m, own_keep HO.out hb5, (fun n hn => by rw [HF.out] at hn; cases hn), HFR.out.trans ((Below.fr hb5).mono fun _ _ h => h.elim)⟩
        · have hlb : ((us.length : Int) == 1) = true := by simp; omega
          have hin := HFI.out (by omega)
          obtain ⟨n, hn⟩ := Int.eq_ofNat_of_zero_le hin.1
          have hnl : n < left.length := by omega
          have hni : (n : Int) < (left.length : Int) := by omega
          have h0u : (0 : Int) < (us.length : Int) := by omega
          obtain ⟨gb, go_, gc, hfe, _, _, hcell⟩ := (HU.out.kept HFR.out (fun j _ hj e => HUG.out j hj e)).ints.ne (by omega)
          simp only [Value.slice.injEq] at hfe
          obtain ⟨rfl, hh, rfl⟩ := hfe
          clear hh
          have hc0 := hcell 0 (by omega)
          rw [Nat.add_zero, hn] at hc0
          have hzb : gb < wr.heap.size := World.block_lt_of_cell? wr _ hc0
          obtain ⟨b1, o1, rfl, hs1, hbl1, hp1, hp2, hp3⟩ := F1.out n hnl
          have hS1 : ¬ b1 = g := HS.out _ hs1
          replace hp1 := HFR.out.cell (p := ⟨b1, o1 + n * 3, none⟩) hS1 hp1
          replace hp2 := HFR.out.cell (p := ⟨b1, o1 + n * 3 + 1, none⟩) hS1 hp2
          replace hp3 := HFR.out.cell (p := ⟨b1, o1 + n * 3 + 2, none⟩) hS1 hp3
          have hzc : b1 < wr.heap.size := World.block_lt_of_cell? wr _ hp1
          have hE := (show usedO left (x1, x2, x3) m0 us = if decide (gd left n = (x1, x2, x3)) = true then some m else none by rw [HSE.out, usedEnd, if_pos hx1, hl1, hn, Int.toNat_natCast]; rfl)
          have HE := Lib.hid hE
          clear hl1 hx1 hcell hn hin hE hs1
          by_cases he0 : (gd left n).1 = x1
          rotate_left
          · have hb0 : ((gd left n).1 == x1) = false := by simp [he0]
            have hEQ : decide ((gd left n) = (x1, x2, x3)) = false := by simp [Prod.ext_iff, he0]
            have HEQ := Lib.hid hEQ
            clear hEQ he0
            go_wp2
            refine wp_region_ext (by kernel_rfl) (by kernel_rfl) ?_
            repeat (go_big_quiet_step ((fail)))
            refine wpQuiet_nil ?_
            intro w5 hb5
            go_wp2
            go_ret
            exact ⟨by rw [HE.out, HEQ.out]; rfl, m, own_keep HO.out hb5, (fun n hn => by rw [HE.out, HEQ.out] at hn; cases hn), HFR.out.trans ((Below.fr hb5).mono fun _ _ h => h.elim)⟩
          · have hb0 : ((gd left n).1 == x1) = true := by simp [he0]
            by_cases he1 : (gd left n).2.1 = x2
            rotate_left
            · have hb1 : ((gd left n).2.1 == x2) = false := by simp [he1]
              have hEQ : decide ((gd left n) = (x1, x2, x3)) = false := by simp [Prod.ext_iff, he1]
              have HEQ := Lib.hid hEQ
              clear hEQ he0 he1
              go_wp2
              refine wp_region_ext (by kernel_rfl) (by kernel_rfl) ?_
              repeat (go_big_quiet_step ((fail)))
              refine wpQuiet_nil ?_
              intro w5 hb5
              go_wp2
              go_ret
              exact ⟨by rw [HE.out, HEQ.out]; rfl, m, own_keep HO.out hb5, (fun n hn => by rw [HE.out, HEQ.out] at hn; cases hn), HFR.out.trans ((Below.fr hb5).mono fun _ _ h => h.elim)⟩
            · have hb1 : ((gd left n).2.1 == x2) = true := by simp [he1]
              by_cases he2 : (gd left n).2.2 = x3
              rotate_left
              · have hb2 : ((gd left n).2.2 == x3) = false := by simp [he2]
                have hEQ : decide ((gd left n) = (x1, x2, x3)) = false := by simp [Prod.ext_iff, he2]
                have HEQ := Lib.hid hEQ
                clear hEQ he0 he1 he2
                go_wp2
                refine wp_region_ext (by kernel_rfl) (by kernel_rfl) ?_
                repeat (go_big_quiet_step ((fail)))
                refine wpQuiet_nil ?_
                intro w5 hb5
                go_wp2
                go_ret
                exact ⟨by rw [HE.out, HEQ.out]; rfl, m, own_keep HO.out hb5, (fun n hn => by rw [HE.out, HEQ.out] at hn; cases hn), HFR.out.trans ((Below.fr hb5).mono fun _ _ h => h.elim)⟩
              · have hb2 : ((gd left n).2.2 == x3) = true := by simp [he2]
                have hEQ : decide ((gd left n) = (x1, x2, x3)) = true := by simp [Prod.ext_iff, he0, he1, he2]
                have HEQ := Lib.hid hEQ
                clear he0 he1 he2 hEQ
                go_wp2
                refine wp_region_ext (by kernel_rfl) (by kernel_rfl) ?_
                repeat (go_big_quiet_step ((fail)))
                refine wpQuiet_nil ?_
                intro w5 hb5
                go_wp2
                go_ret
                exact ⟨by rw [HE.out, HEQ.out]; rfl, m, own_keep HO.out hb5, (fun n hn => by rw [HE.out, HEQ.out] at hn; exact (Option.some.inj hn).symm), HFR.out.trans ((Below.fr hb5).mono fun _ _ h => h.elim)⟩
      · have hxk : (x1 == 1) = false := by simp [hx1]
        have hE := (show usedO left (x1, x2, x3) m0 us = if (decide (0 < us.length) && (A == x3)) = true then some m else none by rw [HSE.out, usedEnd, if_neg hx1])
        clear hx1
        by_cases hl0 : 0 < us.length
        rotate_left
        · have hlg : ¬ (0 : Int) < (us.length : Int) := by omega
          have HF := Lib.hid (show usedO left (x1, x2, x3) m0 us = none by rw [hE, decide_eq_false hl0]; rfl)
          clear hE hl0
          go_wp2
          go_ret
          refine ⟨?_, m, HO.out, ?_, HFR.out⟩
          · rw [HF.out]; rfl
          · intro n hn; rw [HF.out] at hn; cases hn
        · have hlg : (0 : Int) < (us.length : Int) := by omega
          by_cases hAB : A = x3
          · have habb : (A == x3) = true := by simp [hAB]
            have HF := Lib.hid (show usedO left (x1, x2, x3) m0 us = some m by rw [hE, decide_eq_true hl0, habb]; rfl)
            clear hE hl0 hAB
            go_wp2
            go_ret
            refine ⟨?_, m, HO.out, ?_, HFR.out⟩
            · rw [HF.out]; rfl
            · intro n hn; rw [HF.out] at hn; exact (Option.some.inj hn).symm
          · have habb : (A == x3) = false := by simp [hAB]
            have HF := Lib.hid (show usedO left (x1, x2, x3) m0 us = none by rw [hE, habb]; simp)
            clear hE hl0 hAB
            go_wp2
            go_ret
            refine ⟨?_, m, HO.out, ?_, HFR.out⟩
            · rw [HF.out]; rfl
            · intro n hn; rw [HF.out] at hn; cases hn
end Go.Proofs.Ytapoillhgimdiaa
/- The plain law: what the program and the reference check of a case is the same. -/
namespace Go.Proofs.Ytapoillhgimdiaa
open Go.RowKit

/-- Numbers marked one by one. -/
def markM (n : Nat) : List Int → Nat → Option Nat
  | [], m => some m
  | k :: r, m => if k < 0 ∨ (n : Int) ≤ k then none else if m.testBit k.toNat = true then none else markM n r (m ||| 2 ^ k.toNat)
def stepO (left : List Atom) (x : Atom) (m : Nat) (u : List Int) : Option Nat :=
  match markM left.length u m with
  | none => none
  | some m' => if allowB left x u = true then some m' else none
def checkO (left : List Atom) : List Atom → List (List Int) → Nat → Option Nat
  | x :: rs, u :: us, m => match stepO left x m u with
    | none => none
    | some m' => checkO left rs us m'
  | _, _, m => some m
theorem usedGo_again {left : List Atom} {B : Int} {cl : Bool} {k : Int} {r : List Int} {i m : Nat} : usedGo left B cl (k :: r) (i + 1) m B = none := by
  unfold usedGo
  split
  · rfl
  · split
    · rfl
    · split
      · rfl
      · rw [if_pos ⟨Nat.succ_pos i, rfl⟩]
theorem chain_eq (left : List Atom) (B : Int) (cl : Bool) : ∀ (us : List Int) (i m : Nat) (A : Int), (0 < i → A ≠ B) →
    (match usedGo left B cl us i m A with | none => none | some (m', A') => if (decide (0 < us.length) && (A' == B)) = true then some m' else none) =
    (match markM left.length us m with | none => none | some m' => if useList left B cl A us = true then some m' else none)
  | [], i, m, A, _ => by simp [usedGo, markM, useList]
  | k :: r, i, m, A, hi => by
    rw [usedGo, markM]
    by_cases h1 : k < 0 ∨ (left.length : Int) ≤ k
    · rw [if_pos h1, if_pos h1]
    · rw [if_neg h1, if_neg h1]
      by_cases h2 : m.testBit k.toNat = true
      · rw [if_pos h2, if_pos h2]
      · rw [if_neg h2, if_neg h2, useList]
        by_cases h3 : (gd left k.toNat).2.1 = A
        · rw [if_neg (by simpa using h3), if_pos h3, if_neg (by rintro ⟨p, q⟩; exact hi p q)]
          by_cases h4 : (gd left k.toNat).2.2 = B
          · rw [if_pos h4, h4]
            simp only [bne_self_eq_false, Bool.false_and, Bool.and_false, Bool.false_eq_true, if_false]
            cases r with
            | nil => simp [usedGo, markM]
            | cons k2 r2 =>
              rw [usedGo_again]
              simp only [List.isEmpty_cons, Bool.false_eq_true, if_false]
              cases markM left.length (k2 :: r2) (m ||| 2 ^ k.toNat) <;> rfl
          · rw [if_neg h4]
            have hb : ((gd left k.toNat).2.2 != B) = true := by simpa using h4
            rw [hb, Bool.true_and]
            by_cases h5 : ((gd left k.toNat).1 == 2 && !cl) = true
            · rw [if_pos h5, if_pos h5]
              simp only [Bool.false_eq_true, if_false]
              cases markM left.length r (m ||| 2 ^ k.toNat) <;> rfl
            · rw [if_neg h5, if_neg h5]
              rw [← chain_eq left B cl r (i + 1) (m ||| 2 ^ k.toNat) _ fun _ => h4]
              cases hq : usedGo left B cl r (i + 1) (m ||| 2 ^ k.toNat) (gd left k.toNat).2.2 with
              | none => rfl
              | some p =>
                obtain ⟨m', A'⟩ := p
                cases r with
                | nil =>
                  simp only [usedGo, Option.some.injEq, Prod.mk.injEq] at hq
                  obtain ⟨rfl, rfl⟩ := hq
                  simp [h4]
                | cons k2 r2 => simp
        · rw [if_pos (by simpa using h3), if_neg h3]
          simp only [Bool.false_eq_true, if_false]
          cases markM left.length r (m ||| 2 ^ k.toNat) <;> rfl
theorem used_step (left : List Atom) (x : Atom) (m : Nat) (us : List Int) : usedO left x m us = stepO left x m us := by
  unfold usedO stepO allowB usedEnd
  by_cases hk : x.1 = 1
  · simp only [if_pos hk]
    match us with
    | [] => simp [usedGo, markM]
    | [k] =>
      rw [usedGo, markM]
      have hg : gi [k] 0 = k := rfl
      rw [hg]
      by_cases h1 : k < 0 ∨ (left.length : Int) ≤ k
      · rw [if_pos h1, if_pos h1]
      · rw [if_neg h1, if_neg h1]
        by_cases h2 : m.testBit k.toNat = true
        · rw [if_pos h2, if_pos h2]
        · rw [if_neg h2, if_neg h2]
          by_cases he : gd left k.toNat = x
          · rw [he, hk]
            simp [usedGo, markM]
          · simp only [markM, usedGo]
            have : (([k] : List Int).length == 1 && decide (gd left k.toNat = x)) = false := by simp [he]
            rw [this]
            simp only [Bool.false_eq_true, if_false]
            (repeat' split) <;> first | rfl | simp_all
    | k :: k2 :: r =>
      have : ((k :: k2 :: r : List Int).length == 1) = false := by simp
      rw [this]
      simp only [Bool.false_and, Bool.false_eq_true, if_false]
      cases usedGo left x.2.2 (clsdB left x.2.2) (k :: k2 :: r) 0 m x.2.1 <;> cases markM left.length (k :: k2 :: r) m <;> rfl
  · simp only [if_neg hk]
    exact chain_eq left x.2.2 (clsdB left x.2.2) us 0 m x.2.1 (fun h => absurd h (by decide))
def cntM (n m : Nat) : Nat := ((List.range n).filter fun k => m.testBit k).length
theorem cntM_set {n m k : Nat} (hk : k < n) (hb : m.testBit k = false) : cntM n (m ||| 2 ^ k) = cntM n m + 1 := by
  induction n with
  | zero => omega
  | succ n ih =>
    unfold cntM
    rw [List.range_succ, List.filter_append, List.filter_append, List.length_append, List.length_append]
    by_cases e : k = n
    · subst e
      have h1 : ((List.range k).filter fun j => (m ||| 2 ^ k).testBit j) = (List.range k).filter fun j => m.testBit j := by
        refine List.filter_congr fun j hj => ?_
        have := List.mem_range.1 hj
        rw [testBit_or_pow]; simp; intro h; omega
      rw [h1]
      have h2 : (m ||| 2 ^ k).testBit k = true := by rw [testBit_or_pow]; simp
      simp [hb]
    · have := ih (by omega)
      unfold cntM at this
      have h2 : (m ||| 2 ^ k).testBit n = m.testBit n := by rw [testBit_or_pow]; simp [e]
      have h3 : ([n].filter fun j => (m ||| 2 ^ k).testBit j) = [n].filter fun j => m.testBit j := by simp only [List.filter_cons, h2, List.filter_nil]
      rw [h3]
      omega
theorem cntM_all (n m : Nat) : (cntM n m == n) = (List.range n).all fun k => m.testBit k := by
  rw [Bool.eq_iff_iff, beq_iff_eq, List.all_eq_true]
  unfold cntM
  conv => lhs; rhs; rw [← List.length_range (n := n)]
  rw [List.length_filter_eq_length_iff]
/-- What a check answers. -/
def fullO (n : Nat) : Option Nat → Bool
  | none => false
  | some m => (List.range n).all fun k => m.testBit k
end Go.Proofs.Ytapoillhgimdiaa
/- The plain law: possible cases of the program and of the reference are the same. -/
namespace Go.Proofs.Ytapoillhgimdiaa
open Go.RowKit

def occT (t : Int) (j : Nat) : Bool := isTermB t && decide (t = (j : Int))
theorem factsM_bit (j : Nat) : ∀ (l : List Fact) (m : Nat), (factsM m l).testBit j = (m.testBit j || l.any fun f => occT f.2.1 j || occT f.2.2 j)
  | [], m => by simp [factsM]
  | f :: l, m => by
    show (factsM (termM (termM m f.2.1) f.2.2) l).testBit j = _
    rw [factsM_bit j l, termM_bit, termM_bit, List.any_cons, ← occT, ← occT, Bool.or_assoc, Bool.or_assoc, ← Bool.or_assoc (occT f.2.1 j)]
theorem atomsM_bit (j : Nat) : ∀ (l : List Atom) (m : Nat), (atomsM m l).testBit j = (m.testBit j || l.any fun f => occT f.2.1 j || occT f.2.2 j)
  | [], m => by simp [atomsM]
  | f :: l, m => by
    show (atomsM (termM (termM m f.2.1) f.2.2) l).testBit j = _
    rw [atomsM_bit j l, termM_bit, termM_bit, List.any_cons, ← occT, ← occT, Bool.or_assoc, Bool.or_assoc, ← Bool.or_assoc (occT f.2.1 j)]
theorem termsM_bit (a : Asn) (j : Nat) : (termsM a).testBit j = ((a.1.any fun f => occT f.2.1 j || occT f.2.2 j) || a.2.any fun f => occT f.2.1 j || occT f.2.2 j) := by
  rw [termsM, atomsM_bit, factsM_bit, Nat.zero_testBit, Bool.false_or]
theorem both_bit (a b : Asn) (j : Nat) : (termsM (a.1 ++ b.1, a.2 ++ b.2)).testBit j = ((termsM a).testBit j || (termsM b).testBit j) := by
  rw [termsM_bit, termsM_bit, termsM_bit]
  simp only [List.any_append]
  cases a.1.any fun f => occT f.2.1 j || occT f.2.2 j <;> cases b.1.any fun f => occT f.2.1 j || occT f.2.2 j <;> cases a.2.any fun f => occT f.2.1 j || occT f.2.2 j <;> cases b.2.any fun f => occT f.2.1 j || occT f.2.2 j <;> rfl
theorem occ_self {t : Int} (h : isTermB t = true) : occT t t.toNat = true := by
  have := isTermB_iff.1 h
  simp [occT, h]; omega
theorem fact_bits {a : Asn} (ha : asnB a = true) {f : Fact} (hf : f ∈ a.1) : (isTermB f.2.1 = true ∧ (termsM a).testBit f.2.1.toNat = true) ∧ (isTermB f.2.2 = true ∧ (termsM a).testBit f.2.2.toNat = true) := by
  simp only [asnB, factsB, Bool.and_eq_true, List.all_eq_true] at ha
  have h1 := ha.1.2 f hf
  simp only [factB, Bool.and_eq_true] at h1
  refine ⟨⟨h1.1, ?_⟩, ⟨h1.2, ?_⟩⟩
  · rw [termsM_bit, Bool.or_eq_true]; left; rw [List.any_eq_true]; exact ⟨f, hf, by rw [occ_self h1.1]; rfl⟩
  · rw [termsM_bit, Bool.or_eq_true]; left; rw [List.any_eq_true]; exact ⟨f, hf, by rw [occ_self h1.2, Bool.or_true]⟩
theorem atom_bits {a : Asn} (ha : asnB a = true) {f : Atom} (hf : f ∈ a.2) : (isTermB f.2.1 = true ∧ (termsM a).testBit f.2.1.toNat = true) ∧ (isTermB f.2.2 = true ∧ (termsM a).testBit f.2.2.toNat = true) := by
  simp only [asnB, factsB, Bool.and_eq_true, List.all_eq_true] at ha
  have h1 := ha.2.2 f hf
  simp only [atomB, Bool.and_eq_true] at h1
  refine ⟨⟨h1.2.1, ?_⟩, ⟨h1.2.2, ?_⟩⟩
  · rw [termsM_bit, Bool.or_eq_true]; right; rw [List.any_eq_true]; exact ⟨f, hf, by rw [occ_self h1.2.1]; rfl⟩
  · rw [termsM_bit, Bool.or_eq_true]; right; rw [List.any_eq_true]; exact ⟨f, hf, by rw [occ_self h1.2.2, Bool.or_true]⟩
/-- Different starts. -/
def stB (m : Nat) : List Atom → Bool
  | [] => true
  | y :: r => if (y.2.1 == 0 || hasT m y.2.1) = true then false else stB (termM m y.2.1) r
theorem starts_st {cl : List Int} : ∀ (l : List Atom) (m : Nat), l.all atomB = true → startsO cl 8 m l = stB m (filledL cl l)
  | [], m, _ => rfl
  | x :: l, m, h => by
    rw [List.all_cons, Bool.and_eq_true] at h
    obtain ⟨t1, t2, t3, t4⟩ := atomB_le' h.1
    have hi : inA cl 8 x = fillC cl x := by rw [inA, decide_eq_true t2, decide_eq_true t4]; rfl
    rw [startsO, hi]
    unfold filledL
    rw [List.filter_cons]
    cases hf : fillC cl x with
    | false => simp only [Bool.false_eq_true, if_false]; exact starts_st l m h.2
    | true =>
      simp only [if_true, List.map_cons, stB]
      show _ = if ((atC cl x).2.1 == 0 || hasT m (atC cl x).2.1) = true then false else stB (termM m (atC cl x).2.1) (filledL cl l)
      rw [← starts_st l _ h.2]; rfl
theorem hasT_term {m : Nat} {t z : Int} (hz : isTermB z = true) : hasT (termM m t) z = (hasT m z || decide (t = z)) := by
  have := isTermB_iff.1 hz
  rw [hasT, hasT, hz, Bool.true_and, Bool.true_and, termM_bit]
  congr 1
  by_cases e : t = z
  · subst e; rw [hz, Bool.true_and]; simp; omega
  · rw [decide_eq_false (show ¬ t = ((z.toNat : Nat) : Int) by omega), decide_eq_false e, Bool.and_false]
theorem stB_iff : ∀ (l : List Atom) (m : Nat), (∀ y ∈ l, isTermB y.2.1 = true) → (stB m l = true ↔ (∀ y ∈ l, y.2.1 ≠ 0 ∧ hasT m y.2.1 = false) ∧ l.Pairwise fun y z => y.2.1 ≠ z.2.1)
  | [], m, _ => by simp [stB]
  | y :: r, m, h => by
    have hr := stB_iff r (termM m y.2.1) fun z hz => h z (List.mem_cons_of_mem _ hz)
    rw [stB, List.pairwise_cons]
    by_cases hc : (y.2.1 == 0 || hasT m y.2.1) = true
    · rw [if_pos hc]
      constructor
      · intro e; cases e
      · rintro ⟨h1, _⟩
        have := h1 y List.mem_cons_self
        rw [this.2, Bool.or_false, beq_iff_eq] at hc
        exact absurd hc this.1
    · rw [if_neg hc, hr]
      simp only [Bool.or_eq_true, beq_iff_eq, not_or, Bool.not_eq_true] at hc
      constructor
      · rintro ⟨h1, h2⟩
        have h3 : ∀ z ∈ r, z.2.1 ≠ 0 ∧ hasT m z.2.1 = false ∧ y.2.1 ≠ z.2.1 := fun z hz => by
          have := h1 z hz
          rw [hasT_term (h z (List.mem_cons_of_mem _ hz)), Bool.or_eq_false_iff, decide_eq_false_iff_not] at this
          exact ⟨this.1, this.2.1, this.2.2⟩
        refine ⟨fun z hz => ?_, ⟨fun z hz => (h3 z hz).2.2, h2⟩⟩
        rcases List.mem_cons.1 hz with rfl | hz
        · exact hc
        · exact ⟨(h3 z hz).1, (h3 z hz).2.1⟩
      · rintro ⟨h1, h2, h3⟩
        refine ⟨fun z hz => ?_, h3⟩
        have h4 := h1 z (List.mem_cons_of_mem _ hz)
        refine ⟨h4.1, ?_⟩
        rw [hasT_term (h z (List.mem_cons_of_mem _ hz)), h4.2, Bool.false_or, decide_eq_false_iff_not]
        exact h2 z hz
theorem apartB_iff (l : List Atom) : apartB l = true ↔ (∀ y ∈ l, y.2.1 ≠ 0) ∧ l.Pairwise fun y z => y.2.1 ≠ z.2.1 := by
  rw [apartB, List.all_eq_true, List.pairwise_iff_getElem]
  constructor
  · intro h
    refine ⟨fun y hy => ?_, fun i j hi hj hij => ?_⟩
    · obtain ⟨i, hi, rfl⟩ := List.mem_iff_getElem.1 hy
      have := h i (List.mem_range.2 hi)
      simp only [apartP, Bool.and_eq_true, bne_iff_ne, gd_of hi] at this
      exact this.1
    · have := h j (List.mem_range.2 hj)
      simp only [apartP, Bool.and_eq_true, List.all_eq_true, bne_iff_ne, gd_of hj] at this
      have h2 := this.2 i (List.mem_range.2 hij)
      rwa [gd_of hi] at h2
  · rintro ⟨h1, h2⟩ i hi
    have hi' := List.mem_range.1 hi
    simp only [apartP, Bool.and_eq_true, List.all_eq_true, bne_iff_ne, gd_of hi']
    refine ⟨h1 _ (List.getElem_mem hi'), fun k hk => ?_⟩
    have hk' := List.mem_range.1 hk
    rw [gd_of (by omega)]
    exact h2 k i (by omega) hi' hk'
theorem starts_apart {cl : List Int} {l : List Atom} (hl : l.all atomB = true) (hc : ∀ x ∈ l, isTermB (gi cl x.2.1.toNat) = true) : startsO cl 8 0 l = apartB (filledL cl l) := by
  rw [starts_st l 0 hl, Bool.eq_iff_iff, apartB_iff, stB_iff _ _ fun y hy => ?_]
  · have h0 : ∀ t, hasT 0 t = false := fun t => by simp [hasT]
    simp only [h0, and_true]
  · obtain ⟨x, hx, rfl⟩ := List.mem_map.1 hy
    exact hc x (List.mem_filter.1 hx).1
theorem step_bit {M : Nat} {cl : List Int} {t : Nat} (h : shapeC M cl = true) (ht : t ≤ 8) (hb : M.testBit t = true) : 0 ≤ gi cl t ∧ gi cl t ≤ (t : Int) := by
  simp only [shapeC, Bool.and_eq_true, List.all_eq_true] at h
  have := h.2 t (List.mem_range.2 (by omega))
  rw [stepC, if_pos hb] at this
  simp only [Bool.and_eq_true, decide_eq_true_eq] at this
  exact ⟨this.1, this.2.1⟩
theorem steps_eq {M M' : Nat} {cl : List Int} {t : Nat} (h : M.testBit t = M'.testBit t) : stepC M cl t = stepS M' cl t := by
  rw [stepC, stepS, h]
  cases M'.testBit t with
  | true =>
    rw [if_pos rfl]
    by_cases h0 : 0 ≤ gi cl t
    · rw [decide_eq_true h0, decide_eq_true (show -1 ≤ gi cl t by omega), decide_eq_false (show ¬ gi cl t < 0 by omega)]; rfl
    · rw [decide_eq_false h0]; rfl
  | false =>
    rw [if_neg (by decide)]
    rw [Bool.eq_iff_iff]
    simp only [beq_iff_eq, Bool.and_eq_true, Bool.or_eq_true, decide_eq_true_eq]
    constructor
    · intro e; rw [e]; exact ⟨by decide, by decide, by omega, .inl (by decide)⟩
    · rintro ⟨h1, h2, h3, h4⟩
      have : ¬ 0 ≤ gi cl t := of_decide_eq_false h1.symm
      omega
theorem case_eq {a b : Asn} {cl : List Int} (ha : asnB a = true) : isCaseB (termsM (a.1 ++ b.1, a.2 ++ b.2)) a cl = readC (termsM b) a cl := by
  unfold isCaseB readC
  obtain ⟨M, hM⟩ : ∃ M, termM (termsM a) 0 ||| termsM b = M := ⟨_, rfl⟩
  have hbit : ∀ j, 1 ≤ j → M.testBit j = (termsM (a.1 ++ b.1, a.2 ++ b.2)).testBit j := fun j hj => by
    rw [← hM, Nat.testBit_or, termM_bit, both_bit]
    have : decide ((0 : Int) = (j : Int)) = false := decide_eq_false (by omega)
    rw [this, Bool.and_false, Bool.or_false]
  have hbit0 : M.testBit 0 = true := by rw [← hM, Nat.testBit_or, termM_bit]; simp [isTermB]
  have hsub : ∀ j, (termsM a).testBit j = true → M.testBit j = true := fun j hj => by rw [← hM, Nat.testBit_or, termM_bit, hj]; rfl
  rw [hM]
  have hsh : shapeC M cl = ((cl.length == 9) && ((gi cl 0 == 0) && (List.range' 1 8).all (stepS (termsM (a.1 ++ b.1, a.2 ++ b.2)) cl))) := by
    unfold shapeC
    congr 1
    rw [show List.range 9 = 0 :: List.range' 1 8 from rfl, List.all_cons]
    congr 1
    · rw [stepC, if_pos hbit0, Bool.eq_iff_iff]
      simp only [Bool.and_eq_true, decide_eq_true_eq, beq_iff_eq]
      constructor
      · rintro ⟨h1, h2, _⟩; omega
      · intro e; rw [e]; exact ⟨by decide, by decide, e⟩
    · rw [Bool.eq_iff_iff, List.all_eq_true, List.all_eq_true]
      constructor
      · intro h t ht; have h1 := (List.mem_range'_1.1 ht).1; rw [← steps_eq (hbit t h1)]; exact h t ht
      · intro h t ht; have h1 := (List.mem_range'_1.1 ht).1; rw [steps_eq (hbit t h1)]; exact h t ht
  cases hs : shapeC M cl with
  | false =>
    rw [hs] at hsh
    rw [Bool.false_and]
    cases h1 : cl.length == 9 <;> cases h2 : gi cl 0 == 0 <;> cases h3 : (List.range' 1 8).all (stepS (termsM (a.1 ++ b.1, a.2 ++ b.2)) cl) <;> simp_all
  | true =>
    have hs' := hs
    rw [hsh] at hs'
    simp only [Bool.and_eq_true] at hs'
    rw [hs'.1, hs'.2.1, hs'.2.2, Bool.true_and, Bool.true_and, Bool.true_and, Bool.true_and]
    have hcl : ∀ t : Int, isTermB t = true → (termsM a).testBit t.toNat = true → 0 ≤ gi cl t.toNat ∧ gi cl t.toNat ≤ 8 := fun t ht hb => by
      have h8 := isTermB_iff.1 ht
      have := step_bit hs (t := t.toNat) (by omega) (hsub _ hb)
      omega
    unfold possC
    congr 1
    · rw [Bool.eq_iff_iff, List.all_eq_true, List.all_eq_true]
      have key : ∀ f ∈ a.1, okF cl 8 f = fitsF cl f := fun f hf => by
        obtain ⟨⟨p1, p2⟩, ⟨q1, q2⟩⟩ := fact_bits ha hf
        have e1 := isTermB_iff.1 p1
        have e2 := isTermB_iff.1 q1
        have c1 := hcl _ p1 p2
        have c2 := hcl _ q1 q2
        rw [okF, if_pos ⟨e1.2, e2.2⟩, fitsF, decide_eq_true c1.1, decide_eq_true c2.1, factC]
        cases gi cl f.2.1.toNat == gi cl f.2.2.toNat <;> cases f.1 <;> rfl
      constructor
      · intro h f hf; rw [key f hf]; exact h f hf
      · intro h f hf; rw [← key f hf]; exact h f hf
    · have hv : a.2.all atomB = true := by simp only [asnB, Bool.and_eq_true] at ha; exact ha.2.2
      rw [starts_apart hv fun x hx => ?_]
      obtain ⟨⟨p1, p2⟩, _⟩ := atom_bits ha hx
      exact isTermB_iff.2 (hcl _ p1 p2)
/-- In a case of two assertions the facts of the second one hold alike. -/
theorem facts_eq {a b : Asn} {cl : List Int} (hb : asnB b = true) (hr : readC (termsM b) a cl = true) : b.1.all (fitsF cl) = b.1.all (factC cl) := by
  simp only [readC, Bool.and_eq_true] at hr
  rw [Bool.eq_iff_iff, List.all_eq_true, List.all_eq_true]
  have key : ∀ f ∈ b.1, fitsF cl f = factC cl f := fun f hf => by
    obtain ⟨⟨p1, p2⟩, ⟨q1, q2⟩⟩ := fact_bits hb hf
    have e1 := isTermB_iff.1 p1
    have e2 := isTermB_iff.1 q1
    have s : ∀ j, (termsM b).testBit j = true → (termM (termsM a) 0 ||| termsM b).testBit j = true := fun j hj => by rw [Nat.testBit_or, hj, Bool.or_true]
    have c1 := step_bit hr.1 (t := f.2.1.toNat) (by omega) (s _ p2)
    have c2 := step_bit hr.1 (t := f.2.2.toNat) (by omega) (s _ q2)
    rw [fitsF, decide_eq_true c1.1, decide_eq_true c2.1, factC]
    cases gi cl f.2.1.toNat == gi cl f.2.2.toNat <;> cases f.1 <;> rfl
  constructor
  · intro h f hf; rw [← key f hf]; exact h f hf
  · intro h f hf; rw [key f hf]; exact h f hf
/-- What the check of a case answers. -/
def checkC (a b : Asn) (p : CPf) : Bool :=
  asnB a && (asnB b && (readC (termsM b) a p.1 && (b.1.all (factC p.1) && (decide (p.2.length = (filledL p.1 b.2).length) && fullO (filledL p.1 a.2).length (checkO (filledL p.1 a.2) (filledL p.1 b.2) p.2 0)))))
end Go.Proofs.Ytapoillhgimdiaa
/- Walks: the check of a case: the reference. -/
namespace Go.Proofs.Ytapoillhgimdiaa
open Go.RowKit

theorem checkO_stop {left right : List Atom} {us : List (List Int)} {k m : Nat} (h1 : k < right.length) (h2 : k < us.length) (hn : stepO left (gd right k) m (gd us k) = none) : checkO left (right.drop k) (us.drop k) m = none := by
  rw [drop_gd' h1, drop_gd' h2, checkO, hn]
theorem checkO_next {left right : List Atom} {us : List (List Int)} {k m m' : Nat} (h1 : k < right.length) (h2 : k < us.length) (hn : stepO left (gd right k) m (gd us k) = some m') : checkO left (right.drop k) (us.drop k) m = checkO left (right.drop (k + 1)) (us.drop (k + 1)) m' := by
  rw [drop_gd' h1, drop_gd' h2, checkO, hn]
theorem checkO_end {left right : List Atom} {us : List (List Int)} {m : Nat} : checkO left (right.drop right.length) us m = some m := by
  rw [List.drop_length]; cases us <;> rfl
theorem bools_zero (n : Nat) : List.replicate n (Value.bool false) = boolsN n 0 := by
  apply List.ext_getElem?
  intro i
  by_cases h : i < n
  · rw [bools_at h, List.getElem?_replicate, if_pos h, Nat.zero_testBit]
  · simp [boolsN, h]

theorem info_bool9 : (Try.prog.info? 4).map (fun i => (i.zero, i.size, i.bytes)) = some (some (.bool false), 1, 1) := by kernel_rfl
set_option maxRecDepth 100000 in
set_option maxHeartbeats 6400000 in
theorem l16Check_any {S1 S2 S3 S4 S5 S6 : Nat → Prop} (v1 v2 u1 u2 p1 p2 : Value) (a b : Asn) (p : CPf) (w : World) (h1 : RL w S1 v1 a.1) (h2 : RL w S2 v2 a.2) (k1 : RL w S3 u1 b.1) (k2 : RL w S4 u2 b.2) (j1 : RL w S5 p1 p.1) (j2 : RL w S6 p2 p.2)
    (ha : asnB a = true) (hb0 : asnB b = true) (hp9 : p.1.length = 9) :
    Calls Try.prog 116 #[.agg #[v1, v2], .agg #[u1, u2], .agg #[p1, p2]] w fun e w' => e = .returned (.bool (b.1.all (fitsF p.1) && (decide (p.2.length = (filledL p.1 b.2).length) && fullO (filledL p.1 a.2).length (checkO (filledL p.1 a.2) (filledL p.1 b.2) p.2 0)))) ∧ Below w.heap.size w w' := by
  obtain ⟨cl, us⟩ := p
  simp only at j1 j2 hp9 ⊢
  have hfa : (a.2.all atomB = true ∧ a.2.length ≤ 1048576 ∧ a.2.length ≤ 6) ∧ ((b.1.all factB = true ∧ b.2.all atomB = true) ∧ b.2.length ≤ 1048576) := by
    simp only [asnB, factsB, Bool.and_eq_true, decide_eq_true_eq] at ha hb0
    exact ⟨⟨ha.2.2, by omega, ha.2.1⟩, ⟨⟨hb0.1.2, hb0.2.2⟩, by omega⟩⟩
  have HFA := Lib.hid hfa
  have HP9 := Lib.hid hp9
  have hmu := j2.len
  unfold maxLen at hmu
  obtain ⟨xa1, xc1, rfl⟩ := h1.form
  obtain ⟨xa2, xc2, rfl⟩ := h2.form
  obtain ⟨ya1, yc1, rfl⟩ := k1.form
  obtain ⟨ya2, yc2, rfl⟩ := k2.form
  obtain ⟨za1, zc1, rfl⟩ := j1.form
  obtain ⟨za2, zc2, rfl⟩ := j2.form
  have r2 := Lib.hid h2
  have s1 := Lib.hid k1
  have s2 := Lib.hid k2
  have t1 := Lib.hid j1.ints
  have t2 := Lib.hid j2.lt
  clear h1 h2 k1 k2 j1 j2 ha hb0 hfa hp9
  obtain ⟨left, hleft⟩ : ∃ l, filledL cl a.2 = l := ⟨_, rfl⟩
  obtain ⟨right, hright⟩ : ∃ l, filledL cl b.2 = l := ⟨_, rfl⟩
  obtain ⟨fb, hfb⟩ : ∃ x, b.1.all (fitsF cl) = x := ⟨_, rfl⟩
  have hn6 : left.length ≤ 6 := by rw [← hleft]; exact Nat.le_trans (filledL_len _ _) HFA.out.1.2.2
  rw [hleft, hright, hfb]
  have HLE := Lib.hid (And.intro hleft hright)
  have HFB := Lib.hid hfb
  clear hleft hright hfb
  obtain ⟨i0, hi, hz0, hz1, hz2⟩ := info_parts info_bool9
  go_enter Try.func116, Try.ntmps116
  go_wp2_with fail
  generalize hw0 : ((w.alloc (.cells #[.slice xa1 a.1.length xc1, .slice xa2 a.2.length xc2] 33)).alloc (.cells #[.slice ya1 b.1.length yc1, .slice ya2 b.2.length yc2] 33)).alloc (.cells #[.slice za1 cl.length zc1, .slice za2 us.length zc2] 46) = w0 at *
  have hd0 : w0.cell? ⟨w.heap.size + 1, 0, none⟩ = some (.slice ya1 b.1.length yc1) := by rw [← hw0]; simp [go_sem]
  have hd1 : w0.cell? ⟨w.heap.size + 1, 1, none⟩ = some (.slice ya2 b.2.length yc2) := by rw [← hw0]; simp [go_sem]
  have he0 : w0.cell? ⟨w.heap.size + 1 + 1, 0, none⟩ = some (.slice za1 cl.length zc1) := by rw [← hw0]; simp [go_sem]
  have he1 : w0.cell? ⟨w.heap.size + 1 + 1, 1, none⟩ = some (.slice za2 us.length zc2) := by rw [← hw0]; simp [go_sem]
  have hW : Below w.heap.size w w0 := by rw [← hw0]; exact ba (ba (below_alloc _ _) _) _
  clear hw0
  refine (filledS_any _ _ cl a.2 _ (t1.out.keep hW) HP9.out (r2.out.keep hW) HFA.out.1.1 HFA.out.1.2.1).mono ?_
  rintro e w1 ⟨vL, rfl, hL, hb⟩
  replace hd0 := cell_keep hb hd0; replace hd1 := cell_keep hb hd1; replace he0 := cell_keep hb he0; replace he1 := cell_keep hb he1; replace hW := bt hW hb; clear hb
  rw [HLE.out.1] at hL
  have hLr := hL.rl
  obtain ⟨la, lc, rfl⟩ := hLr.form
  clear hL
  go_wp2_with fail
  refine (filledS_any _ _ cl b.2 _ (t1.out.keep hW) HP9.out (s2.out.keep hW) HFA.out.2.1.2 HFA.out.2.2).mono ?_
  rintro e w2 ⟨vR, rfl, hR, hb⟩
  replace hLr := hLr.keep hb
  replace hd0 := cell_keep hb hd0; replace hd1 := cell_keep hb hd1; replace he0 := cell_keep hb he0; replace he1 := cell_keep hb he1; replace hW := bt hW hb; clear hb
  rw [HLE.out.2] at hR
  have hRr := hR.rl
  obtain ⟨ra, rc, rfl⟩ := hRr.form
  clear hR
  have hrm := hRr.len
  unfold maxLen at hrm
  have hLl := Lib.hid hLr.lt
  have hRl := Lib.hid hRr.lt
  have hws := World.block_lt_of_cell? w2 _ he0
  simp only at hws
  have hgo : ∀ (w3 : World), w3.ownsRow w.heap.size 4 1 (.slice (some ⟨w2.heap.size, 0, none⟩) left.length left.length) left.length (madeCells (Value.bool false).cells (left.length * 1)).toList → w2.grownBy w3 none →
      Below w2.heap.size w2 w3 ∧ w3.ownsRow w.heap.size 4 1 (.slice (some ⟨w2.heap.size, 0, none⟩) left.length left.length) left.length (boolsN left.length 0) := by
    intro w3 hown hgr
    refine ⟨(grown_fr hgr).below (B := w2.heap.size) (Nat.le_refl _) (by intro k _ e; cases e), ?_⟩
    have e : (madeCells (Value.bool false).cells (left.length * 1)).toList = boolsN left.length 0 := by
      rw [show (Value.bool false).cells = #[Value.bool false] from rfl, toList_madeCells_one, Nat.mul_one, bools_zero]
    rwa [e] at hown
  have HGO := Lib.hid hgo
  clear hgo
  by_cases hll : right.length = us.length
  rotate_left
  · have hnl : ((right.length : Int) != (us.length : Int)) = true := by simp; omega
    have HF := Lib.hid (show decide (us.length = right.length) = false by simp; omega)
    clear hll
    go_wp2_with (at_make; refine wpList_make_full _ rfl _ _ 105 rfl w.heap.size 4 i0 (.bool false) 1 Try.underlying105 hi hz0 hz1 _ _ _ _ left.length rfl rfl rfl rfl (by rw [hz2]; omega) (by unfold maxLen; omega) hW.size ?_; intro w3 hown hgr; obtain ⟨hb3, hown0⟩ := HGO.out w3 hown hgr; clear hown hgr; replace hd0 := cell_keep hb3 hd0; replace hd1 := cell_keep hb3 hd1; replace he0 := cell_keep hb3 he0; replace he1 := cell_keep hb3 he1)
    go_ret
    exact ⟨by rw [HF.out]; simp, bt hW hb3⟩
  have hnl : ((right.length : Int) != (us.length : Int)) = false := by simp; omega
  have HLEN := Lib.hid (show decide (us.length = right.length) = true by simp; omega)
  go_wp2_with (at_make; refine wpList_make_full _ rfl _ _ 105 rfl w.heap.size 4 i0 (.bool false) 1 Try.underlying105 hi hz0 hz1 _ _ _ _ left.length rfl rfl rfl rfl (by rw [hz2]; omega) (by unfold maxLen; omega) hW.size ?_; intro w3 hown hgr; obtain ⟨hb3, hown0⟩ := HGO.out w3 hown hgr; clear hown hgr; replace hd0 := cell_keep hb3 hd0; replace hd1 := cell_keep hb3 hd1; replace he0 := cell_keep hb3 he0; replace he1 := cell_keep hb3 he1)
  have hW3 := bt hW hb3
  have HLl := Lib.hid (And.intro (hLl.out.keep hb3) (hRl.out.keep hb3))
  refine (cb (l5Fits_any _ _ b.1 cl _ (s1.out.keep hW3) (t1.out.keep hW3) HFA.out.2.1.1 HP9.out) HFB.out).mono ?_
  rintro e w4 ⟨rfl, hb⟩
  have HLl := Lib.hid (And.intro (HLl.out.1.keep hb) (HLl.out.2.keep hb))
  have HOW := Lib.hid (own_keep hown0 hb)
  replace hd0 := cell_keep hb hd0; replace hd1 := cell_keep hb hd1; replace he0 := cell_keep hb he0; replace he1 := cell_keep hb he1; replace hW3 := bt hW3 hb; clear hb
  cases fb with
  | false =>
    go_wp2
    go_ret
    exact ⟨rfl, hW3⟩
  | true =>
    have hgz : w2.heap.size < w4.heap.size := (HOW.out.lt _ rfl).2
    have HT2 := Lib.hid (t2.out.keep hW3)
    obtain ⟨s, hs⟩ : ∃ s, w2.heap.size = s := ⟨_, rfl⟩
    have hWs : w.heap.size ≤ s := by omega
    rw [hs] at HOW HLl hgz hws ⊢
    clear hs hown0 hb3
    have HHR := Lib.hid (And.intro he1 (Fr.refl (fun j => j = s) w4))
    have hlm := HLl.out.1.len
    unfold maxLen at hlm
    go_wp2
    go_loopg [10] right.length (fun q i wr => ∃ (k m : Nat), k + q = right.length ∧ i = .int .i64 k ∧ checkO left right us 0 = checkO left (right.drop k) (us.drop k) m ∧ wr.ownsRow w.heap.size 4 1 (.slice (some ⟨s, 0, none⟩) left.length left.length) left.length (boolsN left.length m) ∧ wr.cell? ⟨w.heap.size + 1 + 1, 1, none⟩ = some (.slice za2 us.length zc2) ∧ Fr (fun j => j = s) w4 wr)
    case atStart => exact ⟨0, 0, by omega, rfl, rfl, HOW.out, HHR.out.1, HHR.out.2⟩
    case round =>
      clear hd0 hd1 he0 he1
      obtain ⟨k, m, hk, rfl, hch, ho, he1, hfr⟩ := hrel
      have HK := Lib.hid hk
      have HCH := Lib.hid hch
      have HO := Lib.hid ho
      have HFR := Lib.hid hfr
      have hbw : Below w.heap.size w wr := hW3.trans (hfr.below hW3.size fun j hj e => by omega)
      have hzz := hfr.size
      clear hk hch ho hfr
      by_cases hk8 : k < right.length
      · have hki : (k : Int) < (right.length : Int) := by omega
        have hki' : (k : Int) < (us.length : Int) := by omega
        have HL1 := Lib.hid (HLl.out.1.kept HFR.out (fun j _ hj e => by have : j < s := hj; omega))
        have HR1 := Lib.hid (HLl.out.2.kept HFR.out (fun j _ hj e => by have : j < s := hj; omega))
        have HU1 := HT2.out.kept HFR.out (fun j _ hj e => by have : j < w.heap.size := hj; omega)
        obtain ⟨ra', rc', hra, _, _, hrf⟩ := HR1.out.atomAt
        simp only [Value.slice.injEq] at hra
        obtain ⟨rfl, _, rfl⟩ := hra
        obtain ⟨b1, o1, rfl, hs1, hzc, hp1, hp2, hp3⟩ := hrf k hk8
        obtain ⟨ua', uc', hua, _, _, huf⟩ := HU1.listAt
        simp only [Value.slice.injEq] at hua
        obtain ⟨rfl, _, rfl⟩ := hua
        obtain ⟨b2, o2, lv, rfl, hs2, hzu, hq, hlv⟩ := huf k (by omega)
        have hn1 : ¬ b1 = s := fun e => by have : b1 < s := hs1; omega
        have hn2 : ¬ b2 = s := fun e => by have : b2 < w.heap.size := hs2; omega
        have hn3 : ¬ w.heap.size + 1 + 1 = s := by omega
        clear hs1 hs2
        obtain ⟨lva, lvc, rfl⟩ := hlv.form
        have HLV := Lib.hid hlv
        have hzy : w.heap.size + 1 + 1 < wr.heap.size := World.block_lt_of_cell? wr _ he1
        have husd := used_step left (gd right k) m (gd us k)
        clear hrf huf hlv HU1
        obtain ⟨R, hR⟩ : ∃ r, stepO left (gd right k) m (gd us k) = r := ⟨_, rfl⟩
        rw [hR] at husd
        have HUS := Lib.hid husd
        clear husd
        cases R with
        | none =>
          have HF := Lib.hid (show checkO left right us 0 = none by rw [HCH.out, checkO_stop hk8 (by omega) hR])
          clear hR
          go_wp2
          go_region_held3 (fun w' => (w'.cell? ⟨b1, o1 + k * 3, none⟩ = some (.int .i64 (gd right k).1) ∧ w'.cell? ⟨b1, o1 + k * 3 + 1, none⟩ = some (.int .i64 (gd right k).2.1) ∧ w'.cell? ⟨b1, o1 + k * 3 + 2, none⟩ = some (.int .i64 (gd right k).2.2)) ∧ (w'.cell? ⟨w.heap.size + 1 + 1, 1, none⟩ = some (.slice (some ⟨b2, o2, none⟩) us.length zc2) ∧ w'.cell? ⟨b2, o2 + k, none⟩ = some (.slice lva (gd us k).length lvc)))
            (first | exact ⟨⟨y1, y2, y3⟩, y4, y5⟩ | exact ⟨⟨cell_keep Bl hp1, cell_keep Bl hp2, cell_keep Bl hp3⟩, cell_keep Bl he1, cell_keep Bl hq⟩)
            (first
              | (go_at_call 194; go_must (refine (l16Used_any _ _ s left.length w.heap.size left (gd right k) (gd us k) m _ (HL1.out.keep Bl) (fun j hj e => by have : j < s := hj; omega) (HLV.out.keep Bl) (fun j hj e => by have : j < w.heap.size := hj; omega) (own_keep HO.out Bl)).mono ?_; rw [HUS.out]; rintro e w5 ⟨rfl, m5, ho5, hm5, hf5⟩; have hfq : Fr (fun j => j = s) wr w5 := ((Below.fr (w := wr) Bl).mono (fun _ _ h => h.elim)).trans hf5; have y1 := hfq.cell (p := ⟨b1, o1 + k * 3, none⟩) hn1 hp1; have y2 := hfq.cell (p := ⟨b1, o1 + k * 3 + 1, none⟩) hn1 hp2; have y3 := hfq.cell (p := ⟨b1, o1 + k * 3 + 2, none⟩) hn1 hp3; have y4 := hfq.cell (p := ⟨w.heap.size + 1 + 1, 1, none⟩) hn3 he1; have y5 := hfq.cell (p := ⟨b2, o2 + k, none⟩) hn2 hq)))
          all_goals
            have hbb := hbw.trans (hfq.below hbw.size fun j hj e => by omega)
            go_wp2
            go_ret
            exact ⟨by rw [HF.out, HLEN.out]; rfl, hbb⟩
        | some m' =>
          have HN := Lib.hid (show checkO left right us 0 = checkO left (right.drop (k + 1)) (us.drop (k + 1)) m' by rw [HCH.out, checkO_next hk8 (by omega) hR])
          clear hR
          go_wp2
          go_region_held3 (fun w' => (w'.cell? ⟨b1, o1 + k * 3, none⟩ = some (.int .i64 (gd right k).1) ∧ w'.cell? ⟨b1, o1 + k * 3 + 1, none⟩ = some (.int .i64 (gd right k).2.1) ∧ w'.cell? ⟨b1, o1 + k * 3 + 2, none⟩ = some (.int .i64 (gd right k).2.2)) ∧ (w'.cell? ⟨w.heap.size + 1 + 1, 1, none⟩ = some (.slice (some ⟨b2, o2, none⟩) us.length zc2) ∧ w'.cell? ⟨b2, o2 + k, none⟩ = some (.slice lva (gd us k).length lvc)))
            (first | exact ⟨⟨y1, y2, y3⟩, y4, y5⟩ | exact ⟨⟨cell_keep Bl hp1, cell_keep Bl hp2, cell_keep Bl hp3⟩, cell_keep Bl he1, cell_keep Bl hq⟩)
            (first
              | (go_at_call 194; go_must (refine (l16Used_any _ _ s left.length w.heap.size left (gd right k) (gd us k) m _ (HL1.out.keep Bl) (fun j hj e => by have : j < s := hj; omega) (HLV.out.keep Bl) (fun j hj e => by have : j < w.heap.size := hj; omega) (own_keep HO.out Bl)).mono ?_; rw [HUS.out]; rintro e w5 ⟨rfl, m5, ho5, hm5, hf5⟩; have hfq : Fr (fun j => j = s) wr w5 := ((Below.fr (w := wr) Bl).mono (fun _ _ h => h.elim)).trans hf5; have y1 := hfq.cell (p := ⟨b1, o1 + k * 3, none⟩) hn1 hp1; have y2 := hfq.cell (p := ⟨b1, o1 + k * 3 + 1, none⟩) hn1 hp2; have y3 := hfq.cell (p := ⟨b1, o1 + k * 3 + 2, none⟩) hn1 hp3; have y4 := hfq.cell (p := ⟨w.heap.size + 1 + 1, 1, none⟩) hn3 he1; have y5 := hfq.cell (p := ⟨b2, o2 + k, none⟩) hn2 hq)))
          all_goals
            obtain rfl := hm5 m' rfl
            clear hm5 hf5 y1 y2 y3 y5
            go_wp2
            go_roundg (gk - 1)
            case rel => exact ⟨k + 1, m', by have := HK.out; omega, by go_num, HN.out, ho5, y4, HFR.out.trans hfq⟩
            case measure => have := HK.out; omega
      · obtain rfl : k = right.length := by have := HK.out; omega
        have HE := Lib.hid (show checkO left right us 0 = some m by rw [HCH.out, checkO_end])
        have hcm : ∀ j, j < left.length → wr.cell? ⟨s, j, none⟩ = some (.bool (m.testBit j)) := fun j hj => by
          have := HO.out.cellAt j (by omega)
          rw [bools_at hj] at this
          simpa using this
        have HCM := Lib.hid hcm
        have hsr : s < wr.heap.size := by omega
        obtain ⟨wo, rfl⟩ : ∃ wo : World, wo = wr := ⟨_, rfl⟩
        clear hcm
        go_wp2
        go_loopg [11] left.length (fun q i wr => ∃ j : Nat, j + q = left.length ∧ i = .int .i64 j ∧ (List.range j).all (fun k => m.testBit k) = true ∧ Below wo.heap.size wo wr)
        case atStart => exact ⟨0, by omega, rfl, rfl, Below.refl _ _⟩
        case round =>
          obtain ⟨j, hj, rfl, hal, hb⟩ := hrel
          have HJ := Lib.hid hj
          have HAL := Lib.hid hal
          clear hj hal
          by_cases hj8 : j < left.length
          · have hji : (j : Int) < (left.length : Int) := by omega
            have hcj := cell_below hb (p := ⟨s, j, none⟩) hsr (HCM.out j hj8)
            obtain ⟨q, hq⟩ : ∃ q, m.testBit j = q := ⟨_, rfl⟩
            rw [hq] at hcj
            cases q with
            | true =>
              have HN := Lib.hid (range_all_yes HAL.out hq)
              clear hq
              go_wp2
              go_roundg (gk - 1)
              case rel => exact ⟨j + 1, by have := HJ.out; omega, by go_num, HN.out, hb⟩
              case measure => have := HJ.out; omega
            | false =>
              have HN := Lib.hid (show fullO left.length (checkO left right us 0) = false by rw [HE.out]; exact range_all_no hj8 hq)
              clear hq
              go_wp2
              go_ret
              exact ⟨by rw [HN.out, HLEN.out]; rfl, bt hbw hb⟩
          · obtain rfl : j = left.length := by have := HJ.out; omega
            have HN := Lib.hid (show fullO left.length (checkO left right us 0) = true by rw [HE.out]; exact HAL.out)
            go_wp2
            go_ret
            exact ⟨by rw [HN.out, HLEN.out]; rfl, bt hbw hb⟩
end Go.Proofs.Ytapoillhgimdiaa

/- Walks: atoms that an atom uses: the reference. -/
import Derived.Test.YthoingdcmdhllaaCase8
namespace Go.Proofs.Ythoingdcmdhllaa
open Go.RowKit

/-- The bools that stand for the first n numbers of a set. -/
def boolsN (n m : Nat) : List Value := (List.range n).map fun k => .bool (m.testBit k)
theorem bools_at {n m k : Nat} (h : k < n) : (boolsN n m)[k]? = some (.bool (m.testBit k)) := by simp [boolsN, h]
theorem bools_len (n m : Nat) : (boolsN n m).length = n := by simp [boolsN]
theorem bools_set {n m k : Nat} (_h : k < n) : (boolsN n m).set k (.bool true) = boolsN n (m ||| 2 ^ k) := by
  apply List.ext_getElem?
  intro i
  rw [List.getElem?_set]
  by_cases hi : i < n
  · rw [bools_at hi, bools_at hi, testBit_or_pow]
    by_cases hk : k = i
    · subst hk; simp [boolsN, hi]
    · simp [hk]
  · have h1 : (boolsN n m)[i]? = none := by simp [boolsN]; omega
    have h2 : (boolsN n (m ||| 2 ^ k))[i]? = none := by simp [boolsN]; omega
    rw [h1, h2]
    by_cases hk : k = i
    · subst hk; omega
    · simp [hk]
def usedGo (left : List Atom) (B : Int) (cl : Bool) : List Int → Nat → Nat → Int → Option (Nat × Int)
  | [], _, m, A => some (m, A)
  | k :: r, i, m, A =>
    if k < 0 ∨ (left.length : Int) ≤ k then none
    else if m.testBit k.toNat = true then none
    else if (gd left k.toNat).2.1 ≠ A then none
    else if 0 < i ∧ A = B then none
    else if (((gd left k.toNat).1 == 2) && ((gd left k.toNat).2.2 != B && !cl)) = true then none
    else usedGo left B cl r (i + 1) (m ||| 2 ^ k.toNat) (gd left k.toNat).2.2
/-- How a way ends. -/
def usedEnd (left : List Atom) (x : Atom) (us : List Int) (A : Int) : Bool :=
  if x.1 = 1 then (us.length == 1) && decide (gd left (gi us 0).toNat = x) else decide (0 < us.length) && (A == x.2.2)
def usedO (left : List Atom) (x : Atom) (m : Nat) (us : List Int) : Option Nat :=
  match usedGo left x.2.2 (clsdB left x.2.2) us 0 m x.2.1 with
  | none => none
  | some (m', A) => if usedEnd left x us A = true then some m' else none
theorem usedO_none {left : List Atom} {x : Atom} {m : Nat} {us : List Int} (h : usedGo left x.2.2 (clsdB left x.2.2) us 0 m x.2.1 = none) : usedO left x m us = none := by rw [usedO, h]
theorem usedO_some {left : List Atom} {x : Atom} {m m' : Nat} {A : Int} {us : List Int} (h : usedGo left x.2.2 (clsdB left x.2.2) us 0 m x.2.1 = some (m', A)) : usedO left x m us = if usedEnd left x us A = true then some m' else none := by rw [usedO, h]
theorem usedGo_first {left : List Atom} {B : Int} {cl : Bool} {us : List Int} {i m : Nat} {A : Int} {p : Nat × Int} (h : usedGo left B cl us i m A = some p) (hl : 0 < us.length) : 0 ≤ gi us 0 ∧ gi us 0 < left.length := by
  cases us with
  | nil => simp at hl
  | cons k r =>
    unfold usedGo at h
    split at h
    · simp at h
    · rename_i hk
      show 0 ≤ k ∧ k < left.length
      omega

set_option maxRecDepth 100000 in
set_option maxHeartbeats 12800000 in
theorem l16Used_any {S S2 : Nat → Prop} (v lv : Value) (g uc B0 : Nat) (left : List Atom) (x : Atom) (us : List Int) (m0 : Nat) (w : World) (h : RL w S v left) (hS : ∀ k, S k → ¬ k = g) (hu : RL w S2 lv us) (hU : ∀ k, S2 k → ¬ k = g)
    (ho : w.ownsRow B0 4 1 (.slice (some ⟨g, 0, none⟩) left.length uc) left.length (boolsN left.length m0)) :
    Calls Try.prog 197 #[v, .slice (some ⟨g, 0, none⟩) left.length uc, .agg #[.int .i64 x.1, .int .i64 x.2.1, .int .i64 x.2.2], lv] w fun e w' => e = .returned (.bool (usedO left x m0 us).isSome) ∧ ∃ m', w'.ownsRow B0 4 1 (.slice (some ⟨g, 0, none⟩) left.length uc) left.length (boolsN left.length m') ∧ (∀ n, usedO left x m0 us = some n → n = m') ∧ Fr (fun k => k = g) w w' := by
  have hm := h.len
  have hmu := hu.len
  unfold maxLen at hm hmu
  have HL := Lib.hid h
  obtain ⟨a, c, rfl, _, _, hf1⟩ := h.atomAt
  have F1 := Lib.hid hf1
  have HU := Lib.hid hu
  have HS := Lib.hid hS
  have HUG := Lib.hid hU
  obtain ⟨ua, uc1, rfl⟩ := hu.form
  obtain ⟨x1, x2, x3⟩ := x
  simp only
  have hgl := (ho.lt g rfl).2
  obtain ⟨cl, hcl⟩ : ∃ b, clsdB left x3 = b := ⟨_, rfl⟩
  obtain ⟨R, hR⟩ : ∃ r, usedGo left x3 cl us 0 m0 x2 = r := ⟨_, rfl⟩
  have hno : R = none → usedO left (x1, x2, x3) m0 us = none := fun hr => usedO_none (by rw [hcl, hR, hr])
  have hso : ∀ m' A, R = some (m', A) → usedO left (x1, x2, x3) m0 us = if usedEnd left (x1, x2, x3) us A = true then some m' else none := fun m' A hr => usedO_some (by rw [hcl, hR, hr])
  have HNO := Lib.hid hno
  have HSO := Lib.hid hso
  obtain ⟨bg, hbg⟩ : ∃ b, (left.any fun y => y.2.1 == x3) = b := ⟨_, rfl⟩
  have HBG := Lib.hid hbg
  have hcl' : cl = ((x3 == 0) || bg) := by rw [← hcl, clsdB, hbg]
  have HR := Lib.hid hR
  have HO0 := Lib.hid ho
  clear hf1 h hS hu hU hcl hR hno hso hbg ho
  go_enter Try.func197, Try.ntmps197
  go_wp2
  go_loopg [9, 10] us.length (fun q y i wr => ∃ (k m : Nat) (A : Int), k + q = us.length ∧ i = .int .i64 k ∧ y = .int .i64 A ∧ R = usedGo left x3 cl (us.drop k) k m A ∧ wr.ownsRow B0 4 1 (.slice (some ⟨g, 0, none⟩) left.length uc) left.length (boolsN left.length m) ∧ (wr.cell? ⟨w.heap.size, 0, none⟩ = some (.int .i64 x1) ∧ wr.cell? ⟨w.heap.size, 2, none⟩ = some (.int .i64 x3)) ∧ (wr.cell? ⟨w.heap.size, 1, none⟩ = some (.int .i64 x2)) ∧ Fr (fun k => k = g) w wr)
  case atStart => exact ⟨0, m0, x2, by omega, rfl, rfl, HR.out.symm, HO0.out.alloc _, ⟨by simp [go_sem], by simp [go_sem]⟩, by simp [go_sem], (Below.fr (below_alloc _ _)).mono fun _ _ h => h.elim⟩
  case round =>
    obtain ⟨k, m, A, hk, rfl, rfl, hus, ho, ⟨hd0, hd2⟩, hd1, hfr⟩ := hrel
    have HK := Lib.hid hk
    have HUS := Lib.hid hus
    have HO := Lib.hid ho
    have HFR := Lib.hid hfr
    have hzd : w.heap.size < wr.heap.size := World.block_lt_of_cell? wr _ hd0
    have hzs := hfr.size
    have hgr : g < wr.heap.size := by omega
    have hngd : ¬ w.heap.size = g := by omega
    have hrl := HL.out.kept hfr (fun j _ hj e => HS.out j hj e)
    have HRL := Lib.hid hrl
    clear hk hus ho hfr hrl
    by_cases hk8 : k < us.length
    · have hki : (k : Int) < (us.length : Int) := by omega
      obtain ⟨gb, go_, gc, hfe, _, _, hcell⟩ := (HU.out.kept HFR.out (fun j _ hj e => HUG.out j hj e)).ints.ne (by omega)
      simp only [Value.slice.injEq] at hfe
      obtain ⟨rfl, hh, rfl⟩ := hfe
      clear hh
      have hck := hcell k hk8
      have hzb : gb < wr.heap.size := World.block_lt_of_cell? wr _ hck
      obtain ⟨I, hI⟩ : ∃ x, gi us k = x := ⟨_, rfl⟩
      rw [hI] at hck
      have hst := drop_gi hk8
      rw [hI] at hst
      rw [hst] at HUS
      clear hcell hI hst
      by_cases hI0 : I < 0
      · have HF := Lib.hid (HNO.out (by rw [HUS.out, usedGo, if_pos (Or.inl hI0)]))
        go_wp2
        go_ret
        refine ⟨?_, m, HO.out, ?_, HFR.out⟩
        · rw [HF.out]; rfl
        · intro n hn; rw [HF.out] at hn; cases hn
      by_cases hI1 : (left.length : Int) ≤ I
      · have HF := Lib.hid (HNO.out (by rw [HUS.out, usedGo, if_pos (Or.inr hI1)]))
        go_wp2
        go_ret
        refine ⟨?_, m, HO.out, ?_, HFR.out⟩
        · rw [HF.out]; rfl
        · intro n hn; rw [HF.out] at hn; cases hn
      obtain ⟨n, rfl⟩ := Int.eq_ofNat_of_zero_le (show 0 ≤ I by omega)
      have hnl : n < left.length := by omega
      have hni : (n : Int) < (left.length : Int) := by omega
      have hus := HUS.out
      rw [usedGo, if_neg (by omega), Int.toNat_natCast] at hus
      have hbc : wr.cell? ⟨g, n, none⟩ = some (.bool (m.testBit n)) := by
        have := HO.out.cellAt n (by omega)
        rw [bools_at hnl] at this
        simpa using this
      obtain ⟨q, hq⟩ : ∃ q, m.testBit n = q := ⟨_, rfl⟩
      rw [hq] at hbc hus
      clear hq
      cases q with
      | true =>
        have HF := Lib.hid (HNO.out (by rw [hus]; rfl))
        clear hus
        go_wp2
        go_ret
        refine ⟨?_, m, HO.out, ?_, HFR.out⟩
        · rw [HF.out]; rfl
        · intro n hn; rw [HF.out] at hn; cases hn
      | false =>
        rw [if_neg (by decide)] at hus
        obtain ⟨b1, o1, rfl, _, hbl1, hp1, hp2, hp3⟩ := F1.out n hnl
        have hS1 : ¬ b1 = g := by
          obtain ⟨b2, o2, he, hs2, _⟩ := F1.out n hnl
          obtain ⟨rfl, rfl⟩ : b1 = b2 ∧ o1 = o2 := by simpa using he
          exact HS.out _ hs2
        replace hp1 := HFR.out.cell (p := ⟨b1, o1 + n * 3, none⟩) hS1 hp1
        replace hp2 := HFR.out.cell (p := ⟨b1, o1 + n * 3 + 1, none⟩) hS1 hp2
        replace hp3 := HFR.out.cell (p := ⟨b1, o1 + n * 3 + 2, none⟩) hS1 hp3
        have hzc : b1 < wr.heap.size := World.block_lt_of_cell? wr _ hp1
        obtain ⟨K1, hK1⟩ : ∃ x, (gd left n).1 = x := ⟨_, rfl⟩
        obtain ⟨A1, hA1⟩ : ∃ x, (gd left n).2.1 = x := ⟨_, rfl⟩
        obtain ⟨B1, hB1⟩ : ∃ x, (gd left n).2.2 = x := ⟨_, rfl⟩
        rw [hK1] at hp1 hus
        rw [hA1] at hp2 hus
        rw [hB1] at hp3 hus
        clear hK1 hA1 hB1
        by_cases hA : A1 = A
        rotate_left
        · have hab : (A1 != A) = true := by simp [hA]
          have HF := Lib.hid (HNO.out (by rw [hus, if_pos hA]))
          clear hus hA
          go_wp2
          go_ret
          refine ⟨?_, m, HO.out, ?_, HFR.out⟩
          · rw [HF.out]; rfl
          · intro n hn; rw [HF.out] at hn; cases hn
        have hab : (A1 != A) = false := by simp [hA]
        rw [if_neg (by simp [hA])] at hus
        clear hA
        by_cases hk0 : 0 < k
        · have hkg : (0 : Int) < (k : Int) := by omega
          by_cases hAB : A = x3
          · have habb : (A == x3) = true := by simp [hAB]
            have HF := Lib.hid (HNO.out (by rw [hus, if_pos ⟨hk0, hAB⟩]))
            clear hus hAB
            go_wp2
            go_ret
            refine ⟨?_, m, HO.out, ?_, HFR.out⟩
            · rw [HF.out]; rfl
            · intro n hn; rw [HF.out] at hn; cases hn
          · have habb : (A == x3) = false := by simp [hAB]
            rw [if_neg (by simp [hAB])] at hus
            clear hAB
            by_cases hK : K1 = 2
            rotate_left
            · have hkk : (K1 == 2) = false := by simp [hK]
              have HN := Lib.hid (show R = usedGo left x3 cl (us.drop (k + 1)) (k + 1) (m ||| 2 ^ n) B1 by rw [hus, if_neg (by rw [hkk]; simp)])
              clear hus hcl' hK
              go_wp2
              refine wp_region_ext (by kernel_rfl) (by kernel_rfl) ?_
              repeat (go_big_quiet_step ((fail)))
              refine wpQuiet_nil ?_
              intro w5 hb5
              have ho5 := own_keep HO.out hb5
              have hf5 : Fr (fun k => k = g) w w5 := HFR.out.trans ((Below.fr hb5).mono fun _ _ h => h.elim)
              have hz5 : w5.frozen? ⟨g, n, none⟩ = false := by simpa using ho5.frozenAt n
              have hy5 := cell_keep hb5 hbc
              obtain ⟨s1, g1⟩ := ho5.stored n (.bool true)
              rw [bools_set hnl] at s1
              have f1 := grown_fr g1
              have hf6 := hf5.trans (f1.mono fun k _ e => by simpa using e)
              have hq3 := f1.cell (p := ⟨b1, o1 + n * 3 + 2, none⟩) (fun e => hS1 (by simpa using e)) (cell_keep hb5 hp3)
              have hq0 := f1.cell (p := ⟨w.heap.size, 0, none⟩) (fun e => hngd (by simpa using e)) (cell_keep hb5 hd0)
              have hq1 := f1.cell (p := ⟨w.heap.size, 1, none⟩) (fun e => hngd (by simpa using e)) (cell_keep hb5 hd1)
              have hq2 := f1.cell (p := ⟨w.heap.size, 2, none⟩) (fun e => hngd (by simpa using e)) (cell_keep hb5 hd2)
              have HQ := Lib.hid (And.intro (And.intro s1 hf6) (And.intro hq3 (And.intro hq0 (And.intro hq1 hq2))))
              clear s1 g1 f1 hf6 hq3 hq0 hq1 hq2 ho5 hf5
              go_upto_region 11 with fail
              generalize w5.setCell ⟨g, n, none⟩ (.bool true) = w6 at HQ ⊢
              have hq3 := HQ.out.2.1
              clear hp3
              go_wp2
              go_roundg (gk - 1)
              case rel => exact ⟨k + 1, m ||| 2 ^ n, B1, by have := HK.out; omega, by go_num, rfl, HN.out, HQ.out.1.1, ⟨HQ.out.2.2.1, HQ.out.2.2.2.2⟩, HQ.out.2.2.2.1, HQ.out.1.2⟩
              case measure => have := HK.out; omega
            have hkk : (K1 == 2) = true := by simp [hK]
            by_cases hB : B1 = x3
            · have hbb : (B1 != x3) = false := by simp [hB]
              have HN := Lib.hid (show R = usedGo left x3 cl (us.drop (k + 1)) (k + 1) (m ||| 2 ^ n) B1 by rw [hus, if_neg (by rw [hbb]; simp)])
              clear hus hcl' hK hB
              go_wp2
              refine wp_region_ext (by kernel_rfl) (by kernel_rfl) ?_
              repeat (go_big_quiet_step ((fail)))
              refine wpQuiet_nil ?_
              intro w5 hb5
              have ho5 := own_keep HO.out hb5
              have hf5 : Fr (fun k => k = g) w w5 := HFR.out.trans ((Below.fr hb5).mono fun _ _ h => h.elim)
              have hz5 : w5.frozen? ⟨g, n, none⟩ = false := by simpa using ho5.frozenAt n
              have hy5 := cell_keep hb5 hbc
              obtain ⟨s1, g1⟩ := ho5.stored n (.bool true)
              rw [bools_set hnl] at s1
              have f1 := grown_fr g1
              have hf6 := hf5.trans (f1.mono fun k _ e => by simpa using e)
              have hq3 := f1.cell (p := ⟨b1, o1 + n * 3 + 2, none⟩) (fun e => hS1 (by simpa using e)) (cell_keep hb5 hp3)
              have hq0 := f1.cell (p := ⟨w.heap.size, 0, none⟩) (fun e => hngd (by simpa using e)) (cell_keep hb5 hd0)
              have hq1 := f1.cell (p := ⟨w.heap.size, 1, none⟩) (fun e => hngd (by simpa using e)) (cell_keep hb5 hd1)
              have hq2 := f1.cell (p := ⟨w.heap.size, 2, none⟩) (fun e => hngd (by simpa using e)) (cell_keep hb5 hd2)
              have HQ := Lib.hid (And.intro (And.intro s1 hf6) (And.intro hq3 (And.intro hq0 (And.intro hq1 hq2))))
              clear s1 g1 f1 hf6 hq3 hq0 hq1 hq2 ho5 hf5
              go_upto_region 11 with fail
              generalize w5.setCell ⟨g, n, none⟩ (.bool true) = w6 at HQ ⊢
              have hq3 := HQ.out.2.1
              clear hp3
              go_wp2
              go_roundg (gk - 1)
              case rel => exact ⟨k + 1, m ||| 2 ^ n, B1, by have := HK.out; omega, by go_num, rfl, HN.out, HQ.out.1.1, ⟨HQ.out.2.2.1, HQ.out.2.2.2.2⟩, HQ.out.2.2.2.1, HQ.out.1.2⟩
              case measure => have := HK.out; omega
            have hbb : (B1 != x3) = true := by simp [hB]
            by_cases hx0 : x3 = 0
            · have hxb : (x3 != 0) = false := by simp [hx0]
              have HN := Lib.hid (show R = usedGo left x3 cl (us.drop (k + 1)) (k + 1) (m ||| 2 ^ n) B1 by rw [hus, if_neg (by rw [hcl', hx0]; simp)])
              clear hus hcl' hK hB hx0
              go_wp2
              refine wp_region_ext (by kernel_rfl) (by kernel_rfl) ?_
              repeat (go_big_quiet_step ((fail)))
              refine wpQuiet_nil ?_
              intro w5 hb5
              have ho5 := own_keep HO.out hb5
              have hf5 : Fr (fun k => k = g) w w5 := HFR.out.trans ((Below.fr hb5).mono fun _ _ h => h.elim)
              have hz5 : w5.frozen? ⟨g, n, none⟩ = false := by simpa using ho5.frozenAt n
              have hy5 := cell_keep hb5 hbc
              obtain ⟨s1, g1⟩ := ho5.stored n (.bool true)
              rw [bools_set hnl] at s1
              have f1 := grown_fr g1
              have hf6 := hf5.trans (f1.mono fun k _ e => by simpa using e)
              have hq3 := f1.cell (p := ⟨b1, o1 + n * 3 + 2, none⟩) (fun e => hS1 (by simpa using e)) (cell_keep hb5 hp3)
              have hq0 := f1.cell (p := ⟨w.heap.size, 0, none⟩) (fun e => hngd (by simpa using e)) (cell_keep hb5 hd0)
              have hq1 := f1.cell (p := ⟨w.heap.size, 1, none⟩) (fun e => hngd (by simpa using e)) (cell_keep hb5 hd1)
              have hq2 := f1.cell (p := ⟨w.heap.size, 2, none⟩) (fun e => hngd (by simpa using e)) (cell_keep hb5 hd2)
              have HQ := Lib.hid (And.intro (And.intro s1 hf6) (And.intro hq3 (And.intro hq0 (And.intro hq1 hq2))))
              clear s1 g1 f1 hf6 hq3 hq0 hq1 hq2 ho5 hf5
              go_upto_region 11 with fail
              generalize w5.setCell ⟨g, n, none⟩ (.bool true) = w6 at HQ ⊢
              have hq3 := HQ.out.2.1
              clear hp3
              go_wp2
              go_roundg (gk - 1)
              case rel => exact ⟨k + 1, m ||| 2 ^ n, B1, by have := HK.out; omega, by go_num, rfl, HN.out, HQ.out.1.1, ⟨HQ.out.2.2.1, HQ.out.2.2.2.2⟩, HQ.out.2.2.2.1, HQ.out.1.2⟩
              case measure => have := HK.out; omega
            have hxb : (x3 != 0) = true := by simp [hx0]
            have hxc : (x3 == 0) = false := by simp [hx0]
            rw [hxc, Bool.false_or] at hcl'
            subst hcl'
            cases cl with
            | true =>
              have HN := Lib.hid (show R = usedGo left x3 true (us.drop (k + 1)) (k + 1) (m ||| 2 ^ n) B1 by rw [hus, if_neg (by simp)])
              clear hus hK hB hx0 hxc
              go_wp2
              refine wp_region_ext (by kernel_rfl) (by kernel_rfl) ?_
              repeat (go_big_quiet_step ((go_at_call 218; with_reducible exact ext_c (cb (l5Begins_any _ left x3 _ (HRL.out.keep (ext_below _ _))) HBG.out))))
              refine wpQuiet_nil ?_
              intro w5 hb5
              have ho5 := own_keep HO.out hb5
              have hf5 : Fr (fun k => k = g) w w5 := HFR.out.trans ((Below.fr hb5).mono fun _ _ h => h.elim)
              have hz5 : w5.frozen? ⟨g, n, none⟩ = false := by simpa using ho5.frozenAt n
              have hy5 := cell_keep hb5 hbc
              obtain ⟨s1, g1⟩ := ho5.stored n (.bool true)
              rw [bools_set hnl] at s1
              have f1 := grown_fr g1
              have hf6 := hf5.trans (f1.mono fun k _ e => by simpa using e)
              have hq3 := f1.cell (p := ⟨b1, o1 + n * 3 + 2, none⟩) (fun e => hS1 (by simpa using e)) (cell_keep hb5 hp3)
              have hq0 := f1.cell (p := ⟨w.heap.size, 0, none⟩) (fun e => hngd (by simpa using e)) (cell_keep hb5 hd0)
              have hq1 := f1.cell (p := ⟨w.heap.size, 1, none⟩) (fun e => hngd (by simpa using e)) (cell_keep hb5 hd1)
              have hq2 := f1.cell (p := ⟨w.heap.size, 2, none⟩) (fun e => hngd (by simpa using e)) (cell_keep hb5 hd2)
              have HQ := Lib.hid (And.intro (And.intro s1 hf6) (And.intro hq3 (And.intro hq0 (And.intro hq1 hq2))))
              clear s1 g1 f1 hf6 hq3 hq0 hq1 hq2 ho5 hf5
              go_upto_region 11 with fail
              generalize w5.setCell ⟨g, n, none⟩ (.bool true) = w6 at HQ ⊢
              have hq3 := HQ.out.2.1
              clear hp3
              go_wp2
              go_roundg (gk - 1)
              case rel => exact ⟨k + 1, m ||| 2 ^ n, B1, by have := HK.out; omega, by go_num, rfl, HN.out, HQ.out.1.1, ⟨HQ.out.2.2.1, HQ.out.2.2.2.2⟩, HQ.out.2.2.2.1, HQ.out.1.2⟩
              case measure => have := HK.out; omega
            | false =>
              have HF := Lib.hid (HNO.out (by rw [hus, if_pos (by rw [hkk, hbb]; rfl)]))
              clear hus hK hB hx0 hxc
              go_wp2
              refine wp_region_ext (by kernel_rfl) (by kernel_rfl) ?_
              repeat (go_big_quiet_step ((go_at_call 218; with_reducible exact ext_c (cb (l5Begins_any _ left x3 _ (HRL.out.keep (ext_below _ _))) HBG.out))))
              refine wpQuiet_nil ?_
              intro w5 hb5
              go_wp2
              go_ret
              exact ⟨by rw [HF.out]; rfl, m, own_keep HO.out hb5, (fun n hn => by rw [HF.out] at hn; cases hn), HFR.out.trans ((Below.fr hb5).mono fun _ _ h => h.elim)⟩
        · have hkg : ¬ (0 : Int) < (k : Int) := by omega
          rw [if_neg (by simp [hk0])] at hus
          by_cases hK : K1 = 2
          rotate_left
          · have hkk : (K1 == 2) = false := by simp [hK]
            have HN := Lib.hid (show R = usedGo left x3 cl (us.drop (k + 1)) (k + 1) (m ||| 2 ^ n) B1 by rw [hus, if_neg (by rw [hkk]; simp)])
            clear hus hcl' hK
            go_wp2
            refine wp_region_ext (by kernel_rfl) (by kernel_rfl) ?_
            repeat (go_big_quiet_step ((fail)))
            refine wpQuiet_nil ?_
            intro w5 hb5
            have ho5 := own_keep HO.out hb5
            have hf5 : Fr (fun k => k = g) w w5 := HFR.out.trans ((Below.fr hb5).mono fun _ _ h => h.elim)
            have hz5 : w5.frozen? ⟨g, n, none⟩ = false := by simpa using ho5.frozenAt n
            have hy5 := cell_keep hb5 hbc
            obtain ⟨s1, g1⟩ := ho5.stored n (.bool true)
            rw [bools_set hnl] at s1
            have f1 := grown_fr g1
            have hf6 := hf5.trans (f1.mono fun k _ e => by simpa using e)
            have hq3 := f1.cell (p := ⟨b1, o1 + n * 3 + 2, none⟩) (fun e => hS1 (by simpa using e)) (cell_keep hb5 hp3)
            have hq0 := f1.cell (p := ⟨w.heap.size, 0, none⟩) (fun e => hngd (by simpa using e)) (cell_keep hb5 hd0)
            have hq1 := f1.cell (p := ⟨w.heap.size, 1, none⟩) (fun e => hngd (by simpa using e)) (cell_keep hb5 hd1)
            have hq2 := f1.cell (p := ⟨w.heap.size, 2, none⟩) (fun e => hngd (by simpa using e)) (cell_keep hb5 hd2)
            have HQ := Lib.hid (And.intro (And.intro s1 hf6) (And.intro hq3 (And.intro hq0 (And.intro hq1 hq2))))
            clear s1 g1 f1 hf6 hq3 hq0 hq1 hq2 ho5 hf5
            go_upto_region 11 with fail
            generalize w5.setCell ⟨g, n, none⟩ (.bool true) = w6 at HQ ⊢
            have hq3 := HQ.out.2.1
            clear hp3
            go_wp2
            go_roundg (gk - 1)
            case rel => exact ⟨k + 1, m ||| 2 ^ n, B1, by have := HK.out; omega, by go_num, rfl, HN.out, HQ.out.1.1, ⟨HQ.out.2.2.1, HQ.out.2.2.2.2⟩, HQ.out.2.2.2.1, HQ.out.1.2⟩
            case measure => have := HK.out; omega
          have hkk : (K1 == 2) = true := by simp [hK]
          by_cases hB : B1 = x3
          · have hbb : (B1 != x3) = false := by simp [hB]
            have HN := Lib.hid (show R = usedGo left x3 cl (us.drop (k + 1)) (k + 1) (m ||| 2 ^ n) B1 by rw [hus, if_neg (by rw [hbb]; simp)])
            clear hus hcl' hK hB
            go_wp2
            refine wp_region_ext (by kernel_rfl) (by kernel_rfl) ?_
            repeat (go_big_quiet_step ((fail)))
            refine wpQuiet_nil ?_
            intro w5 hb5
            have ho5 := own_keep HO.out hb5
            have hf5 : Fr (fun k => k = g) w w5 := HFR.out.trans ((Below.fr hb5).mono fun _ _ h => h.elim)
            have hz5 : w5.frozen? ⟨g, n, none⟩ = false := by simpa using ho5.frozenAt n
            have hy5 := cell_keep hb5 hbc
            obtain ⟨s1, g1⟩ := ho5.stored n (.bool true)
            rw [bools_set hnl] at s1
            have f1 := grown_fr g1
            have hf6 := hf5.trans (f1.mono fun k _ e => by simpa using e)
            have hq3 := f1.cell (p := ⟨b1, o1 + n * 3 + 2, none⟩) (fun e => hS1 (by simpa using e)) (cell_keep hb5 hp3)
            have hq0 := f1.cell (p := ⟨w.heap.size, 0, none⟩) (fun e => hngd (by simpa using e)) (cell_keep hb5 hd0)
            have hq1 := f1.cell (p := ⟨w.heap.size, 1, none⟩) (fun e => hngd (by simpa using e)) (cell_keep hb5 hd1)
            have hq2 := f1.cell (p := ⟨w.heap.size, 2, none⟩) (fun e => hngd (by simpa using e)) (cell_keep hb5 hd2)
            have HQ := Lib.hid (And.intro (And.intro s1 hf6) (And.intro hq3 (And.intro hq0 (And.intro hq1 hq2))))
            clear s1 g1 f1 hf6 hq3 hq0 hq1 hq2 ho5 hf5
            go_upto_region 11 with fail
            generalize w5.setCell ⟨g, n, none⟩ (.bool true) = w6 at HQ ⊢
            have hq3 := HQ.out.2.1
            clear hp3
            go_wp2
            go_roundg (gk - 1)
            case rel => exact ⟨k + 1, m ||| 2 ^ n, B1, by have := HK.out; omega, by go_num, rfl, HN.out, HQ.out.1.1, ⟨HQ.out.2.2.1, HQ.out.2.2.2.2⟩, HQ.out.2.2.2.1, HQ.out.1.2⟩
            case measure => have := HK.out; omega
          have hbb : (B1 != x3) = true := by simp [hB]
          by_cases hx0 : x3 = 0
          · have hxb : (x3 != 0) = false := by simp [hx0]
            have HN := Lib.hid (show R = usedGo left x3 cl (us.drop (k + 1)) (k + 1) (m ||| 2 ^ n) B1 by rw [hus, if_neg (by rw [hcl', hx0]; simp)])
            clear hus hcl' hK hB hx0
            go_wp2
            refine wp_region_ext (by kernel_rfl) (by kernel_rfl) ?_
            repeat (go_big_quiet_step ((fail)))
            refine wpQuiet_nil ?_
            intro w5 hb5
            have ho5 := own_keep HO.out hb5
            have hf5 : Fr (fun k => k = g) w w5 := HFR.out.trans ((Below.fr hb5).mono fun _ _ h => h.elim)
            have hz5 : w5.frozen? ⟨g, n, none⟩ = false := by simpa using ho5.frozenAt n
            have hy5 := cell_keep hb5 hbc
            obtain ⟨s1, g1⟩ := ho5.stored n (.bool true)
            rw [bools_set hnl] at s1
            have f1 := grown_fr g1
            have hf6 := hf5.trans (f1.mono fun k _ e => by simpa using e)
            have hq3 := f1.cell (p := ⟨b1, o1 + n * 3 + 2, none⟩) (fun e => hS1 (by simpa using e)) (cell_keep hb5 hp3)
            have hq0 := f1.cell (p := ⟨w.heap.size, 0, none⟩) (fun e => hngd (by simpa using e)) (cell_keep hb5 hd0)
            have hq1 := f1.cell (p := ⟨w.heap.size, 1, none⟩) (fun e => hngd (by simpa using e)) (cell_keep hb5 hd1)
            have hq2 := f1.cell (p := ⟨w.heap.size, 2, none⟩) (fun e => hngd (by simpa using e)) (cell_keep hb5 hd2)
            have HQ := Lib.hid (And.intro (And.intro s1 hf6) (And.intro hq3 (And.intro hq0 (And.intro hq1 hq2))))
            clear s1 g1 f1 hf6 hq3 hq0 hq1 hq2 ho5 hf5
            go_upto_region 11 with fail
            generalize w5.setCell ⟨g, n, none⟩ (.bool true) = w6 at HQ ⊢
            have hq3 := HQ.out.2.1
            clear hp3
            go_wp2
            go_roundg (gk - 1)
            case rel => exact ⟨k + 1, m ||| 2 ^ n, B1, by have := HK.out; omega, by go_num, rfl, HN.out, HQ.out.1.1, ⟨HQ.out.2.2.1, HQ.out.2.2.2.2⟩, HQ.out.2.2.2.1, HQ.out.1.2⟩
            case measure => have := HK.out; omega
          have hxb : (x3 != 0) = true := by simp [hx0]
          have hxc : (x3 == 0) = false := by simp [hx0]
          rw [hxc, Bool.false_or] at hcl'
          subst hcl'
          cases cl with
          | true =>
            have HN := Lib.hid (show R = usedGo left x3 true (us.drop (k + 1)) (k + 1) (m ||| 2 ^ n) B1 by rw [hus, if_neg (by simp)])
            clear hus hK hB hx0 hxc
            go_wp2
            refine wp_region_ext (by kernel_rfl) (by kernel_rfl) ?_
            repeat (go_big_quiet_step ((go_at_call 218; with_reducible exact ext_c (cb (l5Begins_any _ left x3 _ (HRL.out.keep (ext_below _ _))) HBG.out))))
            refine wpQuiet_nil ?_
            intro w5 hb5
            have ho5 := own_keep HO.out hb5
            have hf5 : Fr (fun k => k = g) w w5 := HFR.out.trans ((Below.fr hb5).mono fun _ _ h => h.elim)
            have hz5 : w5.frozen? ⟨g, n, none⟩ = false := by simpa using ho5.frozenAt n
            have hy5 := cell_keep hb5 hbc
            obtain ⟨s1, g1⟩ := ho5.stored n (.bool true)
            rw [bools_set hnl] at s1
            have f1 := grown_fr g1
            have hf6 := hf5.trans (f1.mono fun k _ e => by simpa using e)
            have hq3 := f1.cell (p := ⟨b1, o1 + n * 3 + 2, none⟩) (fun e => hS1 (by simpa using e)) (cell_keep hb5 hp3)
            have hq0 := f1.cell (p := ⟨w.heap.size, 0, none⟩) (fun e => hngd (by simpa using e)) (cell_keep hb5 hd0)
            have hq1 := f1.cell (p := ⟨w.heap.size, 1, none⟩) (fun e => hngd (by simpa using e)) (cell_keep hb5 hd1)
            have hq2 := f1.cell (p := ⟨w.heap.size, 2, none⟩) (fun e => hngd (by simpa using e)) (cell_keep hb5 hd2)
            have HQ := Lib.hid (And.intro (And.intro s1 hf6) (And.intro hq3 (And.intro hq0 (And.intro hq1 hq2))))
            clear s1 g1 f1 hf6 hq3 hq0 hq1 hq2 ho5 hf5
            go_upto_region 11 with fail
            generalize w5.setCell ⟨g, n, none⟩ (.bool true) = w6 at HQ ⊢
            have hq3 := HQ.out.2.1
            clear hp3
            go_wp2
            go_roundg (gk - 1)
            case rel => exact ⟨k + 1, m ||| 2 ^ n, B1, by have := HK.out; omega, by go_num, rfl, HN.out, HQ.out.1.1, ⟨HQ.out.2.2.1, HQ.out.2.2.2.2⟩, HQ.out.2.2.2.1, HQ.out.1.2⟩
            case measure => have := HK.out; omega
          | false =>
            have HF := Lib.hid (HNO.out (by rw [hus, if_pos (by rw [hkk, hbb]; rfl)]))
            clear hus hK hB hx0 hxc
            go_wp2
            refine wp_region_ext (by kernel_rfl) (by kernel_rfl) ?_
            repeat (go_big_quiet_step ((go_at_call 218; with_reducible exact ext_c (cb (l5Begins_any _ left x3 _ (HRL.out.keep (ext_below _ _))) HBG.out))))
            refine wpQuiet_nil ?_
            intro w5 hb5
            go_wp2
            go_ret
            exact ⟨by rw [HF.out]; rfl, m, own_keep HO.out hb5, (fun n hn => by rw [HF.out] at hn; cases hn), HFR.out.trans ((Below.fr hb5).mono fun _ _ h => h.elim)⟩
    · obtain rfl : k = us.length := by have := HK.out; omega
      have hus := HUS.out
      rw [List.drop_length, usedGo] at hus
      have HSE := Lib.hid (HSO.out m A hus)
      have HFI := Lib.hid (fun hl : 0 < us.length => usedGo_first (by rw [HR.out]; exact hus) hl)
      clear hus
      by_cases hx1 : x1 = 1
      · have hxk : (x1 == 1) = true := by simp [hx1]
        by_cases hl1 : us.length = 1
        rotate_left
        · have hlb : ((us.length : Int) == 1) = false := by simp; omega
          have HF := Lib.hid (show usedO left (x1, x2, x3) m0 us = none by rw [HSE.out, usedEnd, if_pos hx1]; simp [hl1])
          clear hl1 hx1
          go_wp2
          refine wp_region_ext (by kernel_rfl) (by kernel_rfl) ?_
          repeat (go_big_quiet_step ((fail)))
          refine wpQuiet_nil ?_
          intro w5 hb5
          go_wp2
          go_ret
          exact ⟨by rw [HF.out]; rfl, m, own_keep HO.out hb5, (fun n hn => by rw [HF.out] at hn; cases hn), HFR.out.trans ((Below.fr hb5).mono fun _ _ h => h.elim)⟩
        · have hlb : ((us.length : Int) == 1) = true := by simp; omega
          have hin := HFI.out (by omega)
          obtain ⟨n, hn⟩ := Int.eq_ofNat_of_zero_le hin.1
          have hnl : n < left.length := by omega
          have hni : (n : Int) < (left.length : Int) := by omega
          have h0u : (0 : Int) < (us.length : Int) := by omega
          obtain ⟨gb, go_, gc, hfe, _, _, hcell⟩ := (HU.out.kept HFR.out (fun j _ hj e => HUG.out j hj e)).ints.ne (by omega)
          simp only [Value.slice.injEq] at hfe
          obtain ⟨rfl, hh, rfl⟩ := hfe
          clear hh
          have hc0 := hcell 0 (by omega)
          rw [Nat.add_zero, hn] at hc0
          have hzb : gb < wr.heap.size := World.block_lt_of_cell? wr _ hc0
          obtain ⟨b1, o1, rfl, hs1, hbl1, hp1, hp2, hp3⟩ := F1.out n hnl
          have hS1 : ¬ b1 = g := HS.out _ hs1
          replace hp1 := HFR.out.cell (p := ⟨b1, o1 + n * 3, none⟩) hS1 hp1
          replace hp2 := HFR.out.cell (p := ⟨b1, o1 + n * 3 + 1, none⟩) hS1 hp2
          replace hp3 := HFR.out.cell (p := ⟨b1, o1 + n * 3 + 2, none⟩) hS1 hp3
          have hzc : b1 < wr.heap.size := World.block_lt_of_cell? wr _ hp1
          have hE := (show usedO left (x1, x2, x3) m0 us = if decide (gd left n = (x1, x2, x3)) = true then some m else none by rw [HSE.out, usedEnd, if_pos hx1, hl1, hn, Int.toNat_natCast]; rfl)
          have HE := Lib.hid hE
          clear hl1 hx1 hcell hn hin hE hs1
          by_cases he0 : (gd left n).1 = x1
          rotate_left
          · have hb0 : ((gd left n).1 == x1) = false := by simp [he0]
            have hEQ : decide ((gd left n) = (x1, x2, x3)) = false := by simp [Prod.ext_iff, he0]
            have HEQ := Lib.hid hEQ
            clear hEQ he0
            go_wp2
            refine wp_region_ext (by kernel_rfl) (by kernel_rfl) ?_
            repeat (go_big_quiet_step ((fail)))
            refine wpQuiet_nil ?_
            intro w5 hb5
            go_wp2
            go_ret
            exact ⟨by rw [HE.out, HEQ.out]; rfl, m, own_keep HO.out hb5, (fun n hn => by rw [HE.out, HEQ.out] at hn; cases hn), HFR.out.trans ((Below.fr hb5).mono fun _ _ h => h.elim)⟩
          · have hb0 : ((gd left n).1 == x1) = true := by simp [he0]
            by_cases he1 : (gd left n).2.1 = x2
            rotate_left
            · have hb1 : ((gd left n).2.1 == x2) = false := by simp [he1]
              have hEQ : decide ((gd left n) = (x1, x2, x3)) = false := by simp [Prod.ext_iff, he1]
              have HEQ := Lib.hid hEQ
              clear hEQ he0 he1
              go_wp2
              refine wp_region_ext (by kernel_rfl) (by kernel_rfl) ?_
              repeat (go_big_quiet_step ((fail)))
              refine wpQuiet_nil ?_
              intro w5 hb5
              go_wp2
              go_ret
              exact ⟨by rw [HE.out, HEQ.out]; rfl, m, own_keep HO.out hb5, (fun n hn => by rw [HE.out, HEQ.out] at hn; cases hn), HFR.out.trans ((Below.fr hb5).mono fun _ _ h => h.elim)⟩
            · have hb1 : ((gd left n).2.1 == x2) = true := by simp [he1]
              by_cases he2 : (gd left n).2.2 = x3
              rotate_left
              · have hb2 : ((gd left n).2.2 == x3) = false := by simp [he2]
                have hEQ : decide ((gd left n) = (x1, x2, x3)) = false := by simp [Prod.ext_iff, he2]
                have HEQ := Lib.hid hEQ
                clear hEQ he0 he1 he2
                go_wp2
                refine wp_region_ext (by kernel_rfl) (by kernel_rfl) ?_
                repeat (go_big_quiet_step ((fail)))
                refine wpQuiet_nil ?_
                intro w5 hb5
                go_wp2
                go_ret
                exact ⟨by rw [HE.out, HEQ.out]; rfl, m, own_keep HO.out hb5, (fun n hn => by rw [HE.out, HEQ.out] at hn; cases hn), HFR.out.trans ((Below.fr hb5).mono fun _ _ h => h.elim)⟩
              · have hb2 : ((gd left n).2.2 == x3) = true := by simp [he2]
                have hEQ : decide ((gd left n) = (x1, x2, x3)) = true := by simp [Prod.ext_iff, he0, he1, he2]
                have HEQ := Lib.hid hEQ
                clear he0 he1 he2 hEQ
                go_wp2
                refine wp_region_ext (by kernel_rfl) (by kernel_rfl) ?_
                repeat (go_big_quiet_step ((fail)))
                refine wpQuiet_nil ?_
                intro w5 hb5
                go_wp2
                go_ret
                exact ⟨by rw [HE.out, HEQ.out]; rfl, m, own_keep HO.out hb5, (fun n hn => by rw [HE.out, HEQ.out] at hn; exact (Option.some.inj hn).symm), HFR.out.trans ((Below.fr hb5).mono fun _ _ h => h.elim)⟩
      · have hxk : (x1 == 1) = false := by simp [hx1]
        have hE := (show usedO left (x1, x2, x3) m0 us = if (decide (0 < us.length) && (A == x3)) = true then some m else none by rw [HSE.out, usedEnd, if_neg hx1])
        clear hx1
        by_cases hl0 : 0 < us.length
        rotate_left
        · have hlg : ¬ (0 : Int) < (us.length : Int) := by omega
          have HF := Lib.hid (show usedO left (x1, x2, x3) m0 us = none by rw [hE, decide_eq_false hl0]; rfl)
          clear hE hl0
          go_wp2
          go_ret
          refine ⟨?_, m, HO.out, ?_, HFR.out⟩
          · rw [HF.out]; rfl
          · intro n hn; rw [HF.out] at hn; cases hn
        · have hlg : (0 : Int) < (us.length : Int) := by omega
          by_cases hAB : A = x3
          · have habb : (A == x3) = true := by simp [hAB]
            have HF := Lib.hid (show usedO left (x1, x2, x3) m0 us = some m by rw [hE, decide_eq_true hl0, habb]; rfl)
            clear hE hl0 hAB
            go_wp2
            go_ret
            refine ⟨?_, m, HO.out, ?_, HFR.out⟩
            · rw [HF.out]; rfl
            · intro n hn; rw [HF.out] at hn; exact (Option.some.inj hn).symm
          · have habb : (A == x3) = false := by simp [hAB]
            have HF := Lib.hid (show usedO left (x1, x2, x3) m0 us = none by rw [hE, habb]; simp)
            clear hE hl0 hAB
            go_wp2
            go_ret
            refine ⟨?_, m, HO.out, ?_, HFR.out⟩
            · rw [HF.out]; rfl
            · intro n hn; rw [HF.out] at hn; cases hn
end Go.Proofs.Ythoingdcmdhllaa

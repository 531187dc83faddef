/- Walks: assertions and families are valid. -/
import Derived.Test.YtnhhfbhhglhocaaLs2
namespace Go.Proofs.Ytnhhfbhhglhocaa
open Go.RowKit

set_option maxHeartbeats 800000 in
theorem asnValidI_any {S1 S2 : Nat → Prop} (v1 v2 : Value) (a : Asn) (w : World) (h1 : RL w S1 v1 a.1) (h2 : RL w S2 v2 a.2) :
    Calls Try.prog 56 #[.agg #[v1, v2]] w fun e w' => e = .returned (.bool (asnB a)) ∧ Below w.heap.size w w' := by
  obtain ⟨l1, l⟩ := a
  have hm := h2.len
  simp only at h1 h2 hm
  unfold maxLen at hm
  obtain ⟨a2, c2, rfl, _, _, hf⟩ := h2.atomAt
  have F1 := Lib.hid hf
  clear hf h2
  cases hq : factsB l1
  · have hfin : asnB (l1, l) = false := by simp [asnB, hq]
    have HF := Lib.hid (And.intro hfin hq)
    clear hfin hq
    go_enter Try.func56, Try.ntmps56
    go_wp2_with fail
    refine (cb (factsValidI_any v1 l1 _ (h1.alloc _)) HF.out.2).mono ?_
    rintro e w1 ⟨rfl, hb1⟩
    go_wp2
    go_ret
    exact ⟨by rw [HF.out.1]; rfl, bt (below_alloc _ _) hb1⟩
  by_cases hl : l.length ≤ 6
  rotate_left
  · have hfin : asnB (l1, l) = false := by simp only [asnB]; simp [hl]
    have hgt : (6 : Int) < (l.length : Int) := by omega
    have HF := Lib.hid (And.intro hfin hq)
    clear hfin hl hq
    go_enter Try.func56, Try.ntmps56
    go_wp2_with fail
    refine (cb (factsValidI_any v1 l1 _ (h1.alloc _)) HF.out.2).mono ?_
    rintro e w1 ⟨rfl, hb1⟩
    have hc1 := cell_keep hb1 (p := ⟨w.heap.size, 1, none⟩) (v := .slice a2 l.length c2) (by simp)
    go_wp2
    go_ret
    exact ⟨by rw [HF.out.1]; rfl, bt (below_alloc _ _) hb1⟩
  have hgt : ¬ (6 : Int) < (l.length : Int) := by omega
  have HQ := Lib.hid hq
  clear hq
  go_enter Try.func56, Try.ntmps56
  go_wp2_with fail
  refine (cb (factsValidI_any v1 l1 _ (h1.alloc _)) HQ.out).mono ?_
  rintro e w1 ⟨rfl, hb1⟩
  have hc1 := cell_keep hb1 (p := ⟨w.heap.size, 1, none⟩) (v := .slice a2 l.length c2) (by simp)
  have hb0 := bt (below_alloc _ _) hb1
  clear hb1
  go_wp2
  go_loopg [18] l.length (fun q i wr => ∃ k : Nat, k + q = l.length ∧ i = .int .i64 k ∧ (l.take k).all atomB = true ∧ Below w.heap.size w wr)
  case atStart => exact ⟨0, by omega, rfl, by simp, hb0⟩
  case round =>
    clear hc1 hb0; obtain ⟨k, hk, rfl, ht, hb⟩ := hrel
    have HK := Lib.hid hk
    have HT := Lib.hid ht
    clear hk ht
    by_cases hk8 : k < l.length
    · obtain ⟨b1, o1, rfl, _, hbl1, hp1, hp2, hp3⟩ := F1.out k hk8
      replace hp1 := cell_keep hb hp1; replace hp2 := cell_keep hb hp2; replace hp3 := cell_keep hb hp3
      have hs := hb.size
      have i1 : (k : Int) < (l.length : Int) := by omega
      have hzb : b1 < wr.heap.size := by omega
      cases hp : atomB (gd l k)
      · have hfin : asnB (l1, l) = false := by simp only [asnB]; rw [all_no hk8 hp]; simp
        have HF := Lib.hid (And.intro hfin hp)
        clear hfin hp
        go_wp2_with fail
        refine (cb (atomValidI_any (gd l k) _) HF.out.2).mono ?_
        rintro e w2 ⟨rfl, hb2⟩
        go_wp2
        go_ret
        exact ⟨by rw [HF.out.1]; rfl, bt (by repeat (first | exact Below.refl _ _ | with_reducible assumption | exact below_alloc _ _ | (refine Below.setCell ?_ (by first | (simp; done) | (simp; omega) | omega) _) | apply bd | apply ba | apply be)) hb2⟩
      · have HP := Lib.hid hp
        clear hp
        go_wp2_with fail
        refine (cb (atomValidI_any (gd l k) _) HP.out).mono ?_
        rintro e w2 ⟨rfl, hb2⟩
        go_wp2
        go_roundg (gk - 1)
        case rel => exact ⟨k + 1, by have := HK.out; omega, by go_num, all_take_yes hk8 HT.out HP.out, bt (by repeat (first | exact Below.refl _ _ | with_reducible assumption | exact below_alloc _ _ | (refine Below.setCell ?_ (by first | (simp; done) | (simp; omega) | omega) _) | apply bd | apply ba | apply be)) hb2⟩
        case measure => have := HK.out; omega
    · obtain rfl : k = l.length := by have := HK.out; omega
      have hall := all_end HT.out
      have HA := Lib.hid hall
      clear hall HT
      go_wp2
      go_ret
      exact ⟨by simp only [asnB]; rw [HA.out, HQ.out]; simp; omega, hb⟩
set_option maxHeartbeats 800000 in
theorem asnValidS_any {S1 S2 : Nat → Prop} (v1 v2 : Value) (a : Asn) (w : World) (h1 : RL w S1 v1 a.1) (h2 : RL w S2 v2 a.2) :
    Calls Try.prog 55 #[.agg #[v1, v2]] w fun e w' => e = .returned (.bool (asnB a)) ∧ Below w.heap.size w w' := by
  obtain ⟨l1, l⟩ := a
  have hm := h2.len
  simp only at h1 h2 hm
  unfold maxLen at hm
  obtain ⟨a2, c2, rfl, _, _, hf⟩ := h2.atomAt
  have F1 := Lib.hid hf
  clear hf h2
  go_enter Try.func55, Try.ntmps55
  go_wp2
  go_loopg [3] l.length (fun q i wr => ∃ k : Nat, k + q = l.length ∧ i = .int .i64 k ∧ (l.take k).all atomB = true ∧ Below w.heap.size w wr ∧ wr.cell? ⟨w.heap.size, 0, none⟩ = some v1 ∧ wr.cell? ⟨w.heap.size, 1, none⟩ = some (.slice a2 l.length c2))
  case atStart => exact ⟨0, by omega, rfl, by simp, below_alloc _ _, by simp, by simp⟩
  case round =>
    obtain ⟨k, hk, rfl, ht, hb, hc0, hc1⟩ := hrel
    have HK := Lib.hid hk
    have HT := Lib.hid ht
    clear hk ht
    by_cases hk8 : k < l.length
    · obtain ⟨b1, o1, rfl, _, hbl1, hp1, hp2, hp3⟩ := F1.out k hk8
      replace hp1 := cell_keep hb hp1; replace hp2 := cell_keep hb hp2; replace hp3 := cell_keep hb hp3
      have hs := hb.size
      have i1 : (k : Int) < (l.length : Int) := by omega
      have hzb : b1 < wr.heap.size := by omega
      cases hp : atomB (gd l k)
      · have hfin : asnB (l1, l) = false := by simp only [asnB]; rw [all_no hk8 hp]; simp
        have HF := Lib.hid (And.intro hfin hp)
        clear hfin hp
        go_wp2_with fail
        refine (cb (atomValidS_any (gd l k) _) HF.out.2).mono ?_
        rintro e w2 ⟨rfl, hb2⟩
        go_wp2
        go_ret
        exact ⟨by rw [HF.out.1]; rfl, bt (by repeat (first | exact Below.refl _ _ | with_reducible assumption | exact below_alloc _ _ | (refine Below.setCell ?_ (by first | (simp; done) | (simp; omega) | omega) _) | apply bd | apply ba | apply be)) hb2⟩
      · have HP := Lib.hid hp
        clear hp
        go_wp2_with fail
        refine (cb (atomValidS_any (gd l k) _) HP.out).mono ?_
        rintro e w2 ⟨rfl, hb2⟩
        replace hc0 := cell_keep hb2 hc0; replace hc1 := cell_keep hb2 hc1
        go_wp2
        go_roundg (gk - 1)
        case rel => exact ⟨k + 1, by have := HK.out; omega, by go_num, all_take_yes hk8 HT.out HP.out, bt (by repeat (first | exact Below.refl _ _ | with_reducible assumption | exact below_alloc _ _ | (refine Below.setCell ?_ (by first | (simp; done) | (simp; omega) | omega) _) | apply bd | apply ba | apply be)) hb2, hc0, hc1⟩
        case measure => have := HK.out; omega
    · obtain rfl : k = l.length := by have := HK.out; omega
      have hall := all_end HT.out
      have HA := Lib.hid hall
      clear hall HT
      cases hq : factsB l1
      · have hfin : asnB (l1, l) = false := by simp [asnB, hq]
        have HF := Lib.hid (And.intro hfin hq)
        clear hfin hq
        go_wp2_with fail
        refine (cb (factsValidS_any v1 l1 _ (h1.keep hb)) HF.out.2).mono ?_
        rintro e w1 ⟨rfl, hb1⟩
        go_wp2
        go_ret
        exact ⟨by rw [HF.out.1]; rfl, bt hb hb1⟩
      · have hfin : asnB (l1, l) = decide (l.length ≤ 6) := by simp only [asnB]; rw [HA.out, hq]; simp
        have HF := Lib.hid (And.intro hfin hq)
        clear hfin hq
        go_wp2_with fail
        refine (cb (factsValidS_any v1 l1 _ (h1.keep hb)) HF.out.2).mono ?_
        rintro e w1 ⟨rfl, hb1⟩
        replace hc1 := cell_keep hb1 hc1
        go_wp2
        go_ret
        exact ⟨by rw [HF.out.1]; simp; omega, bt hb hb1⟩
set_option maxHeartbeats 800000 in
theorem famValidI_any {S : Nat → Prop} (v : Value) (l : List Asn) (w : World) (h : RL w S v l) :
    Calls Try.prog 16 #[v] w fun e w' => e = .returned (.bool (famB l)) ∧ Below w.heap.size w w' := by
  have hm := h.len
  unfold maxLen at hm
  obtain ⟨a, c, rfl, _, _, hf⟩ := h.asnAt
  have F1 := Lib.hid hf
  clear hf h
  by_cases hl : l.length ≤ 12
  rotate_left
  · have hfin : famB l = false := by unfold famB; simp [hl]
    have hgt : (12 : Int) < (l.length : Int) := by omega
    have HF := Lib.hid hfin
    clear hfin hl
    go_enter Try.func16, Try.ntmps16
    go_wp2
    go_ret
    exact ⟨by rw [HF.out]; rfl, Below.refl _ _⟩
  have hgt : ¬ (12 : Int) < (l.length : Int) := by omega
  go_enter Try.func16, Try.ntmps16
  go_wp2
  go_loopg [10] l.length (fun q i wr => ∃ k : Nat, k + q = l.length ∧ i = .int .i64 k ∧ (l.take k).all asnB = true ∧ Below w.heap.size w wr)
  case atStart => exact ⟨0, by omega, rfl, by simp, Below.refl _ _⟩
  case round =>
    obtain ⟨k, hk, rfl, ht, hb⟩ := hrel
    have HK := Lib.hid hk
    have HT := Lib.hid ht
    clear hk ht
    by_cases hk8 : k < l.length
    · obtain ⟨b1, o1, u1, u2, rfl, _, hbl1, hp1, hp2, r1, r2⟩ := F1.out k hk8
      obtain ⟨ua1, uc1, rfl⟩ := r1.form
      obtain ⟨ua2, uc2, rfl⟩ := r2.form
      replace hp1 := cell_keep hb hp1; replace hp2 := cell_keep hb hp2
      have hs := hb.size
      have i1 : (k : Int) < (l.length : Int) := by omega
      have hzb : b1 < wr.heap.size := by omega
      cases hp : asnB (gd l k)
      · have hfin : famB l = false := by unfold famB; rw [all_no hk8 hp]; simp
        have HF := Lib.hid (And.intro hfin hp)
        clear hfin hp
        go_wp2_with fail
        refine (cb (asnValidI_any _ _ (gd l k) _ ((r1.keep hb).alloc _) ((r2.keep hb).alloc _)) HF.out.2).mono ?_
        rintro e w2 ⟨rfl, hb2⟩
        go_wp2
        go_ret
        exact ⟨by rw [HF.out.1]; rfl, bt (by repeat (first | exact Below.refl _ _ | with_reducible assumption | exact below_alloc _ _ | (refine Below.setCell ?_ (by first | (simp; done) | (simp; omega) | omega) _) | apply bd | apply ba | apply be)) hb2⟩
      · have HP := Lib.hid hp
        clear hp
        go_wp2_with fail
        refine (cb (asnValidI_any _ _ (gd l k) _ ((r1.keep hb).alloc _) ((r2.keep hb).alloc _)) HP.out).mono ?_
        rintro e w2 ⟨rfl, hb2⟩
        go_wp2
        go_roundg (gk - 1)
        case rel => exact ⟨k + 1, by have := HK.out; omega, by go_num, all_take_yes hk8 HT.out HP.out, bt (by repeat (first | exact Below.refl _ _ | with_reducible assumption | exact below_alloc _ _ | (refine Below.setCell ?_ (by first | (simp; done) | (simp; omega) | omega) _) | apply bd | apply ba | apply be)) hb2⟩
        case measure => have := HK.out; omega
    · obtain rfl : k = l.length := by have := HK.out; omega
      have hall := all_end HT.out
      have HA := Lib.hid hall
      clear hall HT
      go_wp2
      go_ret
      exact ⟨by rw [famB, HA.out]; simp; omega, hb⟩
set_option maxHeartbeats 800000 in
theorem famValidS_any {S : Nat → Prop} (v : Value) (l : List Asn) (w : World) (h : RL w S v l) :
    Calls Try.prog 14 #[v] w fun e w' => e = .returned (.bool (famB l)) ∧ Below w.heap.size w w' := by
  have hm := h.len
  unfold maxLen at hm
  obtain ⟨a, c, rfl, _, _, hf⟩ := h.asnAt
  have F1 := Lib.hid hf
  clear hf h
  go_enter Try.func14, Try.ntmps14
  go_wp2
  go_loopg [3] l.length (fun q i wr => ∃ k : Nat, k + q = l.length ∧ i = .int .i64 k ∧ (l.take k).all asnB = true ∧ Below w.heap.size w wr)
  case atStart => exact ⟨0, by omega, rfl, by simp, Below.refl _ _⟩
  case round =>
    obtain ⟨k, hk, rfl, ht, hb⟩ := hrel
    have HK := Lib.hid hk
    have HT := Lib.hid ht
    clear hk ht
    by_cases hk8 : k < l.length
    · obtain ⟨b1, o1, u1, u2, rfl, _, hbl1, hp1, hp2, r1, r2⟩ := F1.out k hk8
      obtain ⟨ua1, uc1, rfl⟩ := r1.form
      obtain ⟨ua2, uc2, rfl⟩ := r2.form
      replace hp1 := cell_keep hb hp1; replace hp2 := cell_keep hb hp2
      have hs := hb.size
      have i1 : (k : Int) < (l.length : Int) := by omega
      have hzb : b1 < wr.heap.size := by omega
      cases hp : asnB (gd l k)
      · have hfin : famB l = false := by unfold famB; rw [all_no hk8 hp]; simp
        have HF := Lib.hid (And.intro hfin hp)
        clear hfin hp
        go_wp2_with fail
        refine (cb (asnValidS_any _ _ (gd l k) _ (r1.keep hb) (r2.keep hb)) HF.out.2).mono ?_
        rintro e w2 ⟨rfl, hb2⟩
        go_wp2
        go_ret
        exact ⟨by rw [HF.out.1]; rfl, bt (by repeat (first | exact Below.refl _ _ | with_reducible assumption | exact below_alloc _ _ | (refine Below.setCell ?_ (by first | (simp; done) | (simp; omega) | omega) _) | apply bd | apply ba | apply be)) hb2⟩
      · have HP := Lib.hid hp
        clear hp
        go_wp2_with fail
        refine (cb (asnValidS_any _ _ (gd l k) _ (r1.keep hb) (r2.keep hb)) HP.out).mono ?_
        rintro e w2 ⟨rfl, hb2⟩
        go_wp2
        go_roundg (gk - 1)
        case rel => exact ⟨k + 1, by have := HK.out; omega, by go_num, all_take_yes hk8 HT.out HP.out, bt (by repeat (first | exact Below.refl _ _ | with_reducible assumption | exact below_alloc _ _ | (refine Below.setCell ?_ (by first | (simp; done) | (simp; omega) | omega) _) | apply bd | apply ba | apply be)) hb2⟩
        case measure => have := HK.out; omega
    · obtain rfl : k = l.length := by have := HK.out; omega
      have hall := all_end HT.out
      have HA := Lib.hid hall
      clear hall HT
      go_wp2
      go_ret
      exact ⟨by rw [famB, HA.out]; simp; omega, hb⟩
end Go.Proofs.Ytnhhfbhhglhocaa

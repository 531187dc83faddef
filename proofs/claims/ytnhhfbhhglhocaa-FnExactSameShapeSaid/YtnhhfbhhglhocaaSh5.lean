/- Walk: the reference's SameShape. -/
import Derived.Test.YtnhhfbhhglhocaaSh4
namespace Go.Proofs.Ytnhhfbhhglhocaa
open Go.RowKit

theorem valF_len {vl vm : List Int} : ∀ {k : Nat} {ps : Prs}, valF vl vm k = some ps → ps.length ≤ k
  | 0, ps, h => by
    injection h with h
    subst h
    exact Nat.le_refl _
  | k + 1, ps, h => by
    unfold valF at h
    split at h
    · cases h
    · rename_i qs hq
      have := valF_len hq
      split at h
      · injection h with h
        subst h
        unfold nextL
        split
        · simp; omega
        · omega
      · cases h
theorem valF_none {vl vm : List Int} {k : Nat} (h : valF vl vm k = none) : ∀ c, valF vl vm (k + c) = none
  | 0 => h
  | c + 1 => by
    rw [show k + (c + 1) = (k + c) + 1 by omega, valF, valF_none h c]
theorem valF_stop {vl vm : List Int} {k : Nat} {ps : Prs} (hk : k < 8) (h : valF vl vm k = some ps) (hn : nextOk ps (gi vl k) (gi vm k) = false) : valF vl vm 8 = none := by
  have h1 : valF vl vm (k + 1) = none := by rw [valF, h]; simp [hn]
  have := valF_none h1 (7 - k)
  rwa [show k + 1 + (7 - k) = 8 by omega] at this
theorem valF_go {vl vm : List Int} {k : Nat} {ps : Prs} (h : valF vl vm k = some ps) (hn : nextOk ps (gi vl k) (gi vm k) = true) : valF vl vm (k + 1) = some (nextL ps (gi vl k) (gi vm k)) := by
  rw [valF, h]; simp [hn]
theorem start_pairs {vl hl vm hm : List Int} (hv : validB vl hl = true) (hw : validB vm hm = true) {ps : Prs} (h : valF vl vm 8 = some ps) : PI (distP [] ps) ∧ ((distP [] ps).map (·.1)).Nodup := by
  have hi := (val_PI (fun i hi => (valid_vat hv hi).2) (fun i hi => (valid_vat hw hi).2) (Nat.le_refl 8) h).1
  have hd := dist_spec hi (r := ps) (out := []) (fun q hq => hq) (fun q hq => by cases hq) (by simp)
  exact ⟨hi.sub hd.1, hd.2.1⟩
set_option maxRecDepth 100000 in
set_option maxHeartbeats 3200000 in
theorem sameShapeS_any (v1 v2 u1 u2 : Value) (vl hl vm hm : List Int) (w : World) (h1 : RInts w v1 vl) (h2 : RInts w v2 hl) (k1 : RInts w u1 vm) (k2 : RInts w u2 hm) :
    Calls Try.prog 19 #[.agg #[v1, v2], .agg #[u1, u2]] w fun e w' => e = .returned (.bool (specShape vl hl vm hm)) ∧ Below w.heap.size w w' := by
  have q0 : ((w.alloc (.cells #[v1, v2] 34)).alloc (.cells #[u1, u2] 34)).cell? ⟨w.heap.size, 0, none⟩ = some v1 := by simp
  have q1 : ((w.alloc (.cells #[v1, v2] 34)).alloc (.cells #[u1, u2] 34)).cell? ⟨w.heap.size, 1, none⟩ = some v2 := by simp
  have q2 : ((w.alloc (.cells #[v1, v2] 34)).alloc (.cells #[u1, u2] 34)).cell? ⟨w.heap.size + 1, 0, none⟩ = some u1 := by simp
  have q3 : ((w.alloc (.cells #[v1, v2] 34)).alloc (.cells #[u1, u2] 34)).cell? ⟨w.heap.size + 1, 1, none⟩ = some u2 := by simp
  have hW : Below w.heap.size w ((w.alloc (.cells #[v1, v2] 34)).alloc (.cells #[u1, u2] 34)) := ba (below_alloc _ _) _
  obtain ⟨w1, hw1⟩ : ∃ w1, w1 = ((w.alloc (.cells #[v1, v2] 34)).alloc (.cells #[u1, u2] 34)) := ⟨_, rfl⟩
  have hsz : w1.heap.size = w.heap.size + 2 := by rw [hw1]; simp
  rw [← hw1] at q0 q1 q2 q3 hW
  have HR := Lib.hid (And.intro (And.intro h1 h2) (And.intro k1 k2))
  clear h1 h2 k1 k2
  cases hv : validB vl hl
  · have hfin : specShape vl hl vm hm = false := by simp [specShape, hv]
    have HF := Lib.hid (And.intro hfin hv)
    clear hv hfin
    go_enter Try.func19, Try.ntmps19
    go_wp2_with fail
    rw [← hw1]
    refine (specStateValid_any _ _ vl hl _ (HR.out.1.1.keep hW) (HR.out.1.2.keep hW)).mono ?_
    rw [HF.out.2]
    rintro e w2 ⟨rfl, hb2⟩
    go_wp2
    go_ret
    exact ⟨by rw [HF.out.1]; rfl, bt hW hb2⟩
  cases hw : validB vm hm
  · have hfin : specShape vl hl vm hm = false := by simp [specShape, hw]
    have HF := Lib.hid (And.intro hfin (And.intro hv hw))
    clear hv hw hfin
    go_enter Try.func19, Try.ntmps19
    go_wp2_with fail
    rw [← hw1]
    refine (specStateValid_any _ _ vl hl _ (HR.out.1.1.keep hW) (HR.out.1.2.keep hW)).mono ?_
    rw [HF.out.2.1]
    rintro e w2 ⟨rfl, hb2⟩
    have q2 := cell_keep hb2 q2
    have q3 := cell_keep hb2 q3
    go_wp2_with fail
    refine (specStateValid_any _ _ vm hm _ (HR.out.2.1.keep (bt hW hb2)) (HR.out.2.2.keep (bt hW hb2))).mono ?_
    rw [HF.out.2.2]
    rintro e w3 ⟨rfl, hb3⟩
    go_wp2
    go_ret
    exact ⟨by rw [HF.out.1]; rfl, bt (bt hW hb2) hb3⟩
  have HV := Lib.hid (And.intro hv hw)
  have HL := Lib.hid (And.intro (valid_len hv) (valid_len hw))
  obtain ⟨b1, o1, c1, rfl⟩ := state_form HR.out.1.1 HL.out.1.1
  obtain ⟨b2, o2, c2, rfl⟩ := state_form HR.out.2.1 HL.out.2.1
  clear hv hw
  go_enter Try.func19, Try.ntmps19
  go_wp2_with fail
  rw [← hw1]
  refine (specStateValid_any _ _ vl hl _ (HR.out.1.1.keep hW) (HR.out.1.2.keep hW)).mono ?_
  rw [HV.out.1]
  rintro e w2 ⟨rfl, hb2⟩
  replace q0 := cell_keep hb2 q0
  replace q1 := cell_keep hb2 q1
  replace q2 := cell_keep hb2 q2
  replace q3 := cell_keep hb2 q3
  go_wp2_with fail
  refine (specStateValid_any _ _ vm hm _ (HR.out.2.1.keep (bt hW hb2)) (HR.out.2.2.keep (bt hW hb2))).mono ?_
  rw [HV.out.2]
  rintro e w3 ⟨rfl, hb3⟩
  replace q0 := cell_keep hb3 q0
  replace q1 := cell_keep hb3 q1
  replace q2 := cell_keep hb3 q2
  replace q3 := cell_keep hb3 q3
  replace hW := bt (bt hW hb2) hb3
  clear hb2 hb3 hsz hw1
  go_wp2
  go_loopg [5, 6] 8 (fun q v i wr => ∃ (k b o c : Nat) (ps : Prs), k + q = 8 ∧ i = .int .i64 k ∧ v = .slice (some ⟨b, o, none⟩) (2 * ps.length) c ∧ valF vl vm k = some ps ∧ RInts wr (.slice (some ⟨b, o, none⟩) (2 * ps.length) c) (flatP ps) ∧ Below w3.heap.size w3 wr)
  case atStart => exact ⟨0, w3.heap.size, 0, 0, [], rfl, rfl, rfl, rfl, (own_ints (l := []) (own_empty w3 _ _ (Nat.le_refl _))).1, below_alloc _ _⟩
  case round =>
    obtain ⟨k, b, o, c, ps, hk, rfl, rfl, hvf, hr, hb⟩ := hrel
    have HVF := Lib.hid hvf
    have HP := Lib.hid hr
    have hpl := valF_len hvf
    have hc0 := cell_keep hb q0
    have hc1 := cell_keep hb q1
    have hd0 := cell_keep hb q2
    have hd1 := cell_keep hb q3
    have hbW := bt hW hb
    have HK := Lib.hid hk
    clear hvf hr hk
    by_cases hk8 : k < 8
    · have hki : (k : Int) < 8 := by omega
      have hcx := ((HR.out.1.1.keep hbW).at k (by rw [HL.out.1.1]; omega)).2
      have hcy := ((HR.out.2.1.keep hbW).at k (by rw [HL.out.2.1]; omega)).2
      have hgb1 : b1 < wr.heap.size := World.block_lt_of_cell? wr _ hcx
      have hgb2 : b2 < wr.heap.size := World.block_lt_of_cell? wr _ hcy
      cases hok : nextOk ps (gi vl k) (gi vm k)
      · have HOK := Lib.hid hok
        clear hok
        go_wp2_with fail
        go_region_held3 (fun w' => (w'.cell? ⟨w.heap.size, 0, none⟩ = some (.slice (some ⟨b1, o1, none⟩) 8 c1) ∧ w'.cell? ⟨w.heap.size + 1, 0, none⟩ = some (.slice (some ⟨b2, o2, none⟩) 8 c2)) ∧ (w'.cell? ⟨b1, o1 + k, none⟩ = some (.int .i64 (gi vl k)) ∧ w'.cell? ⟨b2, o2 + k, none⟩ = some (.int .i64 (gi vm k))))
          (exact ⟨⟨cell_keep (by repeat (first | exact Below.refl _ _ | with_reducible assumption | exact below_alloc _ _ | (refine Below.setCell ?_ (by first | (simp; done) | (simp; omega) | omega) _) | apply bd | apply ba | apply be)) hc0, cell_keep (by repeat (first | exact Below.refl _ _ | with_reducible assumption | exact below_alloc _ _ | (refine Below.setCell ?_ (by first | (simp; done) | (simp; omega) | omega) _) | apply bd | apply ba | apply be)) hd0⟩, ⟨cell_keep (by repeat (first | exact Below.refl _ _ | with_reducible assumption | exact below_alloc _ _ | (refine Below.setCell ?_ (by first | (simp; done) | (simp; omega) | omega) _) | apply bd | apply ba | apply be)) hcx, cell_keep (by repeat (first | exact Below.refl _ _ | with_reducible assumption | exact below_alloc _ _ | (refine Below.setCell ?_ (by first | (simp; done) | (simp; omega) | omega) _) | apply bd | apply ba | apply be)) hcy⟩⟩)
          ((go_at_call 59; go_must (refine (l15Next_any b o c ps _ _ _ (HP.out.keep (by repeat (first | exact Below.refl _ _ | with_reducible assumption | exact below_alloc _ _ | (refine Below.setCell ?_ (by first | (simp; done) | (simp; omega) | omega) _) | apply bd | apply ba | apply be))) (by omega)).mono ?_; rw [HOK.out]; rintro e w5 ⟨b5, o5, c5, rfl, hr5, hb5'⟩; have hb5 : Below wr.heap.size wr w5 := bt (by repeat (first | exact Below.refl _ _ | with_reducible assumption | exact below_alloc _ _ | (refine Below.setCell ?_ (by first | (simp; done) | (simp; omega) | omega) _) | apply bd | apply ba | apply be)) hb5')))
        go_wp2
        go_ret
        exact ⟨by rw [specShape, valF_stop hk8 HVF.out HOK.out]; simp, bt hbW hb5⟩
      · have HOK := Lib.hid hok
        clear hok
        go_wp2_with fail
        go_region_held3 (fun w' => (w'.cell? ⟨w.heap.size, 0, none⟩ = some (.slice (some ⟨b1, o1, none⟩) 8 c1) ∧ w'.cell? ⟨w.heap.size + 1, 0, none⟩ = some (.slice (some ⟨b2, o2, none⟩) 8 c2)) ∧ (w'.cell? ⟨b1, o1 + k, none⟩ = some (.int .i64 (gi vl k)) ∧ w'.cell? ⟨b2, o2 + k, none⟩ = some (.int .i64 (gi vm k))))
          (exact ⟨⟨cell_keep (by repeat (first | exact Below.refl _ _ | with_reducible assumption | exact below_alloc _ _ | (refine Below.setCell ?_ (by first | (simp; done) | (simp; omega) | omega) _) | apply bd | apply ba | apply be)) hc0, cell_keep (by repeat (first | exact Below.refl _ _ | with_reducible assumption | exact below_alloc _ _ | (refine Below.setCell ?_ (by first | (simp; done) | (simp; omega) | omega) _) | apply bd | apply ba | apply be)) hd0⟩, ⟨cell_keep (by repeat (first | exact Below.refl _ _ | with_reducible assumption | exact below_alloc _ _ | (refine Below.setCell ?_ (by first | (simp; done) | (simp; omega) | omega) _) | apply bd | apply ba | apply be)) hcx, cell_keep (by repeat (first | exact Below.refl _ _ | with_reducible assumption | exact below_alloc _ _ | (refine Below.setCell ?_ (by first | (simp; done) | (simp; omega) | omega) _) | apply bd | apply ba | apply be)) hcy⟩⟩)
          ((go_at_call 59; go_must (refine (l15Next_any b o c ps _ _ _ (HP.out.keep (by repeat (first | exact Below.refl _ _ | with_reducible assumption | exact below_alloc _ _ | (refine Below.setCell ?_ (by first | (simp; done) | (simp; omega) | omega) _) | apply bd | apply ba | apply be))) (by omega)).mono ?_; rw [HOK.out]; rintro e w5 ⟨b5, o5, c5, rfl, hr5, hb5'⟩; have hb5 : Below wr.heap.size wr w5 := bt (by repeat (first | exact Below.refl _ _ | with_reducible assumption | exact below_alloc _ _ | (refine Below.setCell ?_ (by first | (simp; done) | (simp; omega) | omega) _) | apply bd | apply ba | apply be)) hb5')))
        have HR5 := Lib.hid hr5
        clear hr5
        go_wp2
        go_roundg (gk - 1)
        case rel => exact ⟨k + 1, b5, o5, c5, _, by have := HK.out; omega, by go_num, rfl, valF_go HVF.out HOK.out, HR5.out, bt hb hb5⟩
        case measure => have := HK.out; omega
    · obtain rfl : k = 8 := by have := HK.out; omega
      have hfin : specShape vl hl vm hm = matchF hl hm 9 (distP [] ps) 1 := by rw [specShape, HVF.out, HV.out.1, HV.out.2]; rfl
      have HF := Lib.hid hfin
      have hsp := start_pairs HV.out.1 HV.out.2 HVF.out
      have HSP := Lib.hid hsp
      clear hfin hsp
      go_wp2_with fail
      go_region_held3 (fun w' => (w'.cell? ⟨w.heap.size, 0, none⟩ = some (.slice (some ⟨b1, o1, none⟩) 8 c1) ∧ w'.cell? ⟨w.heap.size, 1, none⟩ = some v2) ∧ (w'.cell? ⟨w.heap.size + 1, 0, none⟩ = some (.slice (some ⟨b2, o2, none⟩) 8 c2) ∧ w'.cell? ⟨w.heap.size + 1, 1, none⟩ = some u2))
        (exact ⟨⟨cell_keep (by repeat (first | exact Below.refl _ _ | with_reducible assumption | exact below_alloc _ _ | (refine Below.setCell ?_ (by first | (simp; done) | (simp; omega) | omega) _) | apply bd | apply ba | apply be)) hc0, cell_keep (by repeat (first | exact Below.refl _ _ | with_reducible assumption | exact below_alloc _ _ | (refine Below.setCell ?_ (by first | (simp; done) | (simp; omega) | omega) _) | apply bd | apply ba | apply be)) hc1⟩, ⟨cell_keep (by repeat (first | exact Below.refl _ _ | with_reducible assumption | exact below_alloc _ _ | (refine Below.setCell ?_ (by first | (simp; done) | (simp; omega) | omega) _) | apply bd | apply ba | apply be)) hd0, cell_keep (by repeat (first | exact Below.refl _ _ | with_reducible assumption | exact below_alloc _ _ | (refine Below.setCell ?_ (by first | (simp; done) | (simp; omega) | omega) _) | apply bd | apply ba | apply be)) hd1⟩⟩)
        (first
          | (go_at_call 61; go_must (refine (l15Distinct_any b o c ps _ (HP.out.keep (by repeat (first | exact Below.refl _ _ | with_reducible assumption | exact below_alloc _ _ | (refine Below.setCell ?_ (by first | (simp; done) | (simp; omega) | omega) _) | apply bd | apply ba | apply be))) (by omega)).mono ?_; rintro e w8 ⟨b8, o8, c8, rfl, hr8, hb8'⟩; have hb8 : Below wr.heap.size wr w8 := bt (by repeat (first | exact Below.refl _ _ | with_reducible assumption | exact below_alloc _ _ | (refine Below.setCell ?_ (by first | (simp; done) | (simp; omega) | omega) _) | apply bd | apply ba | apply be)) hb8'; have HR8 := Lib.hid hr8; clear hr8))
          | (go_at_call 60; go_must (refine (match_any vl hl vm hm HV.out.1 HV.out.2 9 _ _ _ _ b8 o8 c8 (distP [] ps) 1 _ _ (HR.out.1.1.keep (bt hbW (by repeat (first | exact Below.refl _ _ | with_reducible assumption | exact below_alloc _ _ | (refine Below.setCell ?_ (by first | (simp; done) | (simp; omega) | omega) _) | apply bd | apply ba | apply be)))) (HR.out.1.2.keep (bt hbW (by repeat (first | exact Below.refl _ _ | with_reducible assumption | exact below_alloc _ _ | (refine Below.setCell ?_ (by first | (simp; done) | (simp; omega) | omega) _) | apply bd | apply ba | apply be)))) (HR.out.2.1.keep (bt hbW (by repeat (first | exact Below.refl _ _ | with_reducible assumption | exact below_alloc _ _ | (refine Below.setCell ?_ (by first | (simp; done) | (simp; omega) | omega) _) | apply bd | apply ba | apply be)))) (HR.out.2.2.keep (bt hbW (by repeat (first | exact Below.refl _ _ | with_reducible assumption | exact below_alloc _ _ | (refine Below.setCell ?_ (by first | (simp; done) | (simp; omega) | omega) _) | apply bd | apply ba | apply be)))) (by omega) HSP.out.1 HSP.out.2 (by omega) (by omega) (by rfl) (by first | exact HR8.out | exact HR8.out.keep (below_drew _))).mono ?_; rw [← HF.out]; rintro e w9 ⟨rfl, hb9'⟩; have hb9 : Below wr.heap.size wr w9 := bt (by repeat (first | exact Below.refl _ _ | with_reducible assumption | exact below_alloc _ _ | (refine Below.setCell ?_ (by first | (simp; done) | (simp; omega) | omega) _) | apply bd | apply ba | apply be)) hb9')))
      all_goals
        have hbb := bt hbW hb9
        go_wp2
        go_ret
        exact ⟨rfl, hbb⟩
end Go.Proofs.Ytnhhfbhhglhocaa

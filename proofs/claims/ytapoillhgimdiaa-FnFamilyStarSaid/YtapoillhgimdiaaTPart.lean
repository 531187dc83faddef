/- Walks: the part of a state that an assertion describes, and the state without some cells. -/
import Derived.Test.YtapoillhgimdiaaTHold6
import Derived.Test.YtapoillhgimdiaaTCpy
import Derived.Test.YtapoillhgimdiaaTCs6
import Derived.Deep.Cut
import Derived.Handy
set_option linter.unusedSimpArgs false
set_option linter.unusedVariables false
namespace Go.Proofs.Ytapoillhgimdiaa
open Go.RowKit

/-- Cells that are chosen, one by one. -/
def chosC (hs : List Int) (m : Nat) : List Int → Option Nat
  | [] => some m
  | n :: r => if alB hs n = true ∧ hasB m n = false then chosC hs (m ||| 2 ^ n.toNat) r else none
def chosO (vl hs cl : List Int) : Option Nat := if validB vl hs = true then chosC hs 0 cl else none
theorem chosC_step {hs : List Int} {m k : Nat} {l : List Int} (h : k < l.length) (ha : alB hs (gi l k) = true) (hn : hasB m (gi l k) = false) : chosC hs m (l.drop k) = chosC hs (m ||| 2 ^ (gi l k).toNat) (l.drop (k + 1)) := by
  rw [drop_gd h, ← gi_gd, chosC, if_pos ⟨ha, hn⟩]
theorem chosC_stop {hs : List Int} {m k : Nat} {l : List Int} (h : k < l.length) (hn : ¬ (alB hs (gi l k) = true ∧ hasB m (gi l k) = false)) : chosC hs m (l.drop k) = none := by
  rw [drop_gd h, ← gi_gd, chosC, if_neg hn]
set_option maxRecDepth 100000 in
set_option maxHeartbeats 3200000 in
theorem chosenCells_any (vs hv cv : Value) (vl hs cl : List Int) (w : World) (h1 : RInts w vs vl) (h2 : RInts w hv hs) (h3 : RInts w cv cl) :
    Calls Try.prog 157 #[.agg #[vs, hv], cv] w fun e w' => e = .returned (.tuple #[.int .u16 (setN (chosO vl hs cl)), .bool (chosO vl hs cl).isSome]) ∧ Below w.heap.size w w' := by
  obtain ⟨va1, vc1, rfl⟩ := h1.form
  obtain ⟨va2, vc2, rfl⟩ := h2.form
  obtain ⟨ca, cc, rfl⟩ := h3.form
  have hlm := h3.len
  unfold maxLen at hlm
  cases hvd : validB vl hs
  · have HR := Lib.hid (show chosO vl hs cl = none by simp [chosO, hvd])
    have HV := Lib.hid hvd
    clear hvd
    go_enter Try.func157, Try.ntmps157
    go_wp2_with fail
    refine (cb (stateValid_any _ _ vl hs _ (h1.keep Bl) (h2.keep Bl)) HV.out).mono ?_
    rintro e w1 ⟨rfl, hb1⟩
    go_wp2
    go_ret2
    exact ⟨by rw [HR.out]; rfl, bt Bl hb1⟩
  have hl8 := valid_len hvd
  have HRES := Lib.hid (show chosO vl hs cl = chosC hs 0 (cl.drop 0) by simp [chosO, hvd])
  have HV := Lib.hid (And.intro hvd hl8.2)
  clear hvd hl8
  go_enter Try.func157, Try.ntmps157
  go_wp2_with fail
  refine (cb (stateValid_any _ _ vl hs _ (h1.keep Bl) (h2.keep Bl)) HV.out.1).mono ?_
  rintro e w1 ⟨rfl, hb1⟩
  have hc0 := cell_keep hb1 (p := ⟨w.heap.size, 0, none⟩) (v := .slice va1 vl.length vc1) (by simp [go_sem])
  have hc1 := cell_keep hb1 (p := ⟨w.heap.size, 1, none⟩) (v := .slice va2 hs.length vc2) (by simp [go_sem])
  have hb01 : Below w.heap.size w w1 := bt Bl hb1
  have HC := Lib.hid (And.intro hc0 hc1)
  clear hb1
  go_wp2
  go_loopg [6, 14] cl.length (fun q x i wr => ∃ (j n : Nat), j + q = cl.length ∧ i = .int .i64 j ∧ x = .int .u16 n ∧ n < 65536 ∧ chosO vl hs cl = chosC hs n (cl.drop j) ∧ Below w1.heap.size w1 wr)
  case atStart => exact ⟨0, 0, by omega, rfl, rfl, by omega, HRES.out, Below.refl _ _⟩
  case round =>
    obtain ⟨j, n, hj, rfl, rfl, hn6, hadd, hbj⟩ := hrel
    have HJ := Lib.hid hj
    have HA := Lib.hid hadd
    clear hj hadd hc0 hc1
    by_cases hj8 : j < cl.length
    · have hji : (j : Int) < (cl.length : Int) := by omega
      have hbw := bt hb01 hbj
      have hc0 := cell_keep hbj HC.out.1
      have hc1 := cell_keep hbj HC.out.2
      obtain ⟨vb, vo, vcap, hfe, _, _, hcell⟩ := (h3.keep hbw).ne (by omega)
      simp only [Value.slice.injEq] at hfe
      obtain ⟨rfl, hh, rfl⟩ := hfe
      clear hh
      have hck := hcell j hj8
      have hzv : vb < wr.heap.size := World.block_lt_of_cell? wr _ hck
      have hzs : w.heap.size < wr.heap.size := World.block_lt_of_cell? wr _ hc0
      clear hcell
      cases hal : alB hs (gi cl j)
      · have HR := Lib.hid (show chosO vl hs cl = none by rw [HA.out, chosC_stop hj8 (by rw [hal]; simp)])
        have HAL := Lib.hid hal
        clear hal
        go_wp2_with fail
        refine (cb (allocated_any _ _ hs (gi cl j) _ (h2.keep hbw) (by rw [HV.out.2]; omega)) HAL.out).mono ?_
        rintro e w5 ⟨rfl, hb5⟩
        go_wp2
        go_ret2
        exact ⟨by rw [HR.out]; rfl, bt hbw hb5⟩
      · obtain ⟨c, hcn⟩ : ∃ c : Nat, gi cl j = (c : Int) := ⟨(gi cl j).toNat, by have := al_addr hal; omega⟩
        have hc8 : c < 16 := by have := al_addr hal; omega
        have HO := Lib.hid (or_bit n c hn6 hc8)
        cases hh : hasB n (c : Int)
        · have hst := chosC_step hj8 hal (show hasB n (gi cl j) = false by rw [hcn]; exact hh)
          rw [hcn] at hst hal hck
          have HST := Lib.hid (And.intro hst hal)
          have HH := Lib.hid hh
          clear hst hh hcn hal
          go_wp2_with fail
          refine (cb (allocated_any _ _ hs (c : Int) _ (h2.keep hbw) (by rw [HV.out.2]; omega)) HST.out.2).mono ?_
          rintro e w5 ⟨rfl, hb5⟩
          go_wp2_with fail
          refine (cellHas_val n (c : Int) _ false hn6 HH.out).mono ?_
          rintro e w7 ⟨rfl, rfl⟩
          go_wp2
          go_roundg (gk - 1)
          case rel => exact ⟨j + 1, n ||| 2 ^ c, by have := HJ.out; omega, by go_num, by rw [← HO.out], or_lt n c hn6 hc8, by rw [HA.out, HST.out.1]; rfl, bt hbj hb5⟩
          case measure => have := HJ.out; omega
        · have hst := chosC_stop (hs := hs) (m := n) hj8 (by rw [hcn, hh]; simp)
          have HR := Lib.hid (show chosO vl hs cl = none by rw [HA.out, hst])
          rw [hcn] at hal hck
          have HST := Lib.hid hal
          have HH := Lib.hid hh
          clear hst hh hcn hal
          go_wp2_with fail
          refine (cb (allocated_any _ _ hs (c : Int) _ (h2.keep hbw) (by rw [HV.out.2]; omega)) HST.out).mono ?_
          rintro e w5 ⟨rfl, hb5⟩
          go_wp2_with fail
          refine (cellHas_val n (c : Int) _ true hn6 HH.out).mono ?_
          rintro e w7 ⟨rfl, rfl⟩
          go_wp2
          go_ret2
          exact ⟨by rw [HR.out]; rfl, bt hbw hb5⟩
    · obtain rfl : j = cl.length := by have := HJ.out; omega
      have hend : chosO vl hs cl = some n := by rw [HA.out, List.drop_length]; rfl
      have HE := Lib.hid hend
      clear hend
      go_wp2
      go_ret2
      exact ⟨by rw [HE.out]; rfl, bt hb01 hbj⟩
/-- A heap without the cells that are not in a set. -/
def wTo (hs : List Int) (M : Nat) : Nat → List Int
  | 0 => hs
  | k + 1 => if hasB M ((k : Int) + 1) = true then wTo hs M k else (wTo hs M k).set k (-1)
theorem wTo_len (hs : List Int) (M : Nat) : ∀ k, (wTo hs M k).length = hs.length
  | 0 => rfl
  | k + 1 => by
    rw [wTo]; split
    · exact wTo_len hs M k
    · rw [List.length_set]; exact wTo_len hs M k
set_option maxRecDepth 100000 in
set_option maxHeartbeats 6400000 in
theorem stateWith_any (vs hv : Value) (vl hs : List Int) (M : Nat) (w : World) (h1 : RInts w vs vl) (h2 : RInts w hv hs) (hl1 : vl.length = 8) (hl2 : hs.length = 8) (hM : M < 65536) :
    Calls Try.prog 158 #[.agg #[vs, hv], .int .u16 M] w fun e w' => ∃ u1 u2, e = .returned (.agg #[u1, u2]) ∧ (RL w' (fun k => w.heap.size + 2 ≤ k) u1 vl ∧ RL w' (fun k => w.heap.size + 2 ≤ k) u2 (wTo hs M 8)) ∧ Below w.heap.size w w' := by
  obtain ⟨va1, vc1, rfl⟩ := h1.form
  obtain ⟨va2, vc2, rfl⟩ := h2.form
  have hbR := heap_alloc_new (w.alloc (.cells #[.slice va1 vl.length vc1, .slice va2 hs.length vc2] 77)) (.cells #[.slice none 0 0, .slice none 0 0] 77)
  rw [World.size_alloc] at hbR
  have hB0 : Below w.heap.size w ((w.alloc (.cells #[.slice va1 vl.length vc1, .slice va2 hs.length vc2] 77)).alloc (.cells #[.slice none 0 0, .slice none 0 0] 77)) := Bl
  have HL := Lib.hid (And.intro hl1 hl2)
  clear hl1 hl2
  go_enter Try.func158, Try.ntmps158
  go_wp2_with fail
  refine (copyState_any _ _ vl hs _ (h1.keep hB0) (h2.keep hB0) (by rw [HL.out.1]; decide) (by rw [HL.out.2]; decide)).mono ?_
  rintro e w1 ⟨u1, u2, rfl, hst, hb1⟩
  have i1 := (own_ints hst.one).1
  obtain ⟨ya, yc, rfl⟩ := i1.form
  obtain ⟨g2, d2, rfl, hgb, hgu⟩ := own_at hst.two (by rw [HL.out.2]; decide)
  rw [World.size_alloc, World.size_alloc] at hgb
  have hz1 : w.heap.size + 2 ≤ w1.heap.size := by have := hb1.size; simp at this; omega
  have hb2 := below_alloc w1 (.cells #[.slice ya vl.length yc, .slice (some ⟨g2, 0, none⟩) hs.length d2] 77)
  have hbx := heap_alloc_new w1 (.cells #[.slice ya vl.length yc, .slice (some ⟨g2, 0, none⟩) hs.length d2] 77)
  have H1 := Lib.hid (And.intro (And.intro (hst.keep hb2) hbx) (And.intro (box_keep (box_keep hbR hb1) hb2) (bt hB0 (bt hb1 hb2))))
  have hap := fun k (e : some k = (Value.slice ya vl.length yc).ownBlock) => hst.apart k e
  have HAP := Lib.hid hap
  clear hst hbx hbR hB0 hb1 h1 h2 i1 hap
  have hz2 : (w1.alloc (.cells #[.slice ya vl.length yc, .slice (some ⟨g2, 0, none⟩) hs.length d2] 77)).heap.size = w1.heap.size + 1 := by simp
  rw [HL.out.1, HL.out.2] at H1 hz2 hb2 HAP ⊢
  go_wp2
  generalize w1.alloc (.cells #[.slice ya 8 yc, .slice (some ⟨g2, 0, none⟩) 8 d2] 77) = W at *
  have H0 := Lib.hid (show OwnSt W (w.heap.size + 2) (.slice ya 8 yc) (.slice (some ⟨g2, 0, none⟩) 8 d2) vl hs from H1.out.1.1.mono (by simp))
  go_loopg [6] 8 (fun q i wr => ∃ k : Nat, k + q = 8 ∧ i = .int .i64 ((k : Int) + 1) ∧ OwnSt wr (w.heap.size + 2) (.slice ya 8 yc) (.slice (some ⟨g2, 0, none⟩) 8 d2) vl (wTo hs M k) ∧ Fr (fun j => j = g2) W wr)
  case atStart => exact ⟨0, by omega, rfl, H0.out, Fr.refl _ _⟩
  case round =>
    obtain ⟨k, hk, rfl, hst, hfr⟩ := hrel
    have HK := Lib.hid hk
    have hbx := box_kept H1.out.1.2 hfr (by omega)
    have c0 := box0 hbx
    have c1 := box1 hbx
    have lb := box_lt hbx
    have e8 := (wTo_len hs M k).trans HL.out.2
    have HS := Lib.hid (And.intro (And.intro hst hfr) e8)
    clear hk
    by_cases hk8 : k < 8
    · have hki : (k : Int) + 1 ≤ 8 := by omega
      have hkj : (k : Int) < 8 := by omega
      obtain ⟨vb, vo, vcap, hfe, _, _, hcell⟩ := (own_ints hst.two).1.ne (by omega)
      simp only [Value.slice.injEq, Option.some.injEq, Addr.mk.injEq, and_true] at hfe
      obtain ⟨⟨rfl, rfl⟩, hx9, rfl⟩ := hfe
      clear hx9
      have hck := hcell k (by omega)
      rw [Nat.zero_add] at hck
      have hrow8 := hst.two
      rw [e8] at hrow8
      have hfz : wr.frozen? ⟨g2, k, none⟩ = false := hrow8.frozenAt k
      have hg2 := World.block_lt_of_cell? wr _ hck
      obtain ⟨b, hb⟩ : ∃ b, hasB M ((k : Int) + 1) = b := ⟨_, rfl⟩
      have HB := Lib.hid hb
      clear hst hfr hbx hcell e8 hb hrow8
      go_wp2_with fail
      refine (cellHas_val M ((k : Int) + 1) _ b hM HB.out).mono ?_
      rintro e w7 ⟨rfl, rfl⟩
      cases b with
      | true =>
        have HN := Lib.hid (show wTo hs M (k + 1) = wTo hs M k by rw [wTo, if_pos HB.out])
        go_wp2
        go_roundg (gk - 1)
        case rel => exact ⟨k + 1, by have := HK.out; omega, by go_num, by rw [HN.out]; exact HS.out.1.1, HS.out.1.2⟩
        case measure => have := HK.out; omega
      | false =>
        have HN := Lib.hid (show wTo hs M (k + 1) = (wTo hs M k).set k (-1) by rw [wTo, if_neg (by rw [HB.out]; decide)])
        have hst2 := (show OwnSt wr (w.heap.size + 2) (.slice ya 8 yc) (.slice (some ⟨g2, 0, none⟩) (wTo hs M k).length d2) vl (wTo hs M k) by rw [HS.out.2]; exact HS.out.1.1).set2 k (-1)
        rw [HS.out.2] at hst2
        have HT := Lib.hid (And.intro hst2 (HS.out.1.2.trans (fr_set wr ⟨g2, k, none⟩ (.int .i64 (-1)))))
        clear hst2
        go_wp2
        go_roundg (gk - 1)
        case rel => exact ⟨k + 1, by have := HK.out; omega, by go_num, by rw [HN.out]; exact HT.out.1, HT.out.2⟩
        case measure => have := HK.out; omega
    · obtain rfl : k = 8 := by have := HK.out; omega
      have hR := box_kept H1.out.2.1 hfr (by omega)
      have r0 := box0 hR
      have r1 := box1 hR
      have rz := boxz hR
      have rl := box_lt hR
      have rr := box_two (.slice ya 8 yc) (.slice (some ⟨g2, 0, none⟩) 8 d2) r0 r1
      have hs6 : Fr (fun j => j = w.heap.size + 1) wr ((wr.setCell ⟨w.heap.size + 1, 0, none⟩ (.slice ya 8 yc)).setCell ⟨w.heap.size + 1, 1, none⟩ (.slice (some ⟨g2, 0, none⟩) 8 d2)) := (fr_set wr ⟨w.heap.size + 1, 0, none⟩ _).trans (fr_set _ ⟨w.heap.size + 1, 1, none⟩ _)
      have hst6 := hst.kept hs6 fun k hk _ e => by have e2 : k = w.heap.size + 1 := e; omega
      have q1 := (own_ints hst6.one).1.rl.more (S' := fun k => w.heap.size + 2 ≤ k) fun k _ h => (own_lt hst6.one h).1
      have q2 := (own_ints hst6.two).1.rl.more (S' := fun k => w.heap.size + 2 ≤ k) fun k _ h => (own_lt hst6.two h).1
      have HE := Lib.hid (And.intro (And.intro q1 q2) ((H1.out.2.2.trans (hfr.below (by omega) fun k hk e => by have e2 : k = g2 := e; omega)).trans (hs6.below (by omega) fun k hk e => by have e2 : k = w.heap.size + 1 := e; omega)))
      clear hR hs6 hst6 hst hfr hbx q1 q2 e8
      go_wp2
      refine bodyPost_ret (v := .agg #[.slice ya 8 yc, .slice (some ⟨g2, 0, none⟩) 8 d2]) (by simp [results, Try.results158, go_sem, rr.1, rr.2]) rfl ?_
      exact ⟨_, _, rfl, HE.out⟩
theorem addsC_lt : ∀ (l : List Int) (m r : Nat), (∀ n ∈ l, isAddrB n = true) → m < 65536 → addsC m l = some r → r < 65536
  | [], m, r, _, hm, h => by cases h; exact hm
  | n :: l, m, r, hl, hm, h => by
    rw [addsC] at h
    split at h
    · cases h
    · have hn := isAddrB_iff.1 (hl n List.mem_cons_self)
      exact addsC_lt l _ r (fun x hx => hl x (List.mem_cons_of_mem _ hx)) (or_lt m n.toNat hm (by omega)) h
theorem partP_lt {vl hs : List Int} (hv : validB vl hs = true) : ∀ (l : List Atom) (m r : Nat), (∀ x ∈ l, atomB x = true) → m < 65536 → partP vl hs m l = some r → r < 65536
  | [], m, r, _, hm, h => by cases h; exact hm
  | x :: l, m, r, hl, hm, h => by
    rw [partP] at h
    split at h
    · rename_i hc
      cases ha : addsC m (cellsL vl hs x) with
      | none => rw [ha] at h; cases h
      | some m' =>
        rw [ha] at h
        have hx := hl x List.mem_cons_self
        exact partP_lt hv l m' r (fun y hy => hl y (List.mem_cons_of_mem _ hy)) (addsC_lt _ _ _ (fun n hn => isAddrB_iff.2 (al_addr (cells_mem hv hx hc n hn))) hm ha) h
    · cases h
theorem partO_lt {vl hs : List Int} {a : Asn} {m : Nat} (h : partO vl hs a = some m) : m < 65536 := by
  rw [partO] at h
  split at h
  · rename_i hc
    simp only [Bool.and_eq_true] at hc
    exact partP_lt hc.1 a.2 0 m (asn_parts hc.2.1).2 (by decide) h
  · cases h
/-- The cells of the part. -/
def maskL (m : Nat) : List Int := sel (fun n => m.testBit n) 1 8
def maskO : Option Nat → List Int
  | some m => maskL m
  | none => []
def partL (vl hs : List Int) (a : Asn) : List Int := maskO (partO vl hs a)
set_option maxRecDepth 100000 in
set_option maxHeartbeats 3200000 in
theorem holdsPart_any {S1 S2 : Nat → Prop} (vs hv v1 v2 : Value) (vl hs : List Int) (a : Asn) (w : World) (h1 : RInts w vs vl) (h2 : RInts w hv hs) (r1 : RL w S1 v1 a.1) (r2 : RL w S2 v2 a.2) :
    Calls Try.prog 72 #[.agg #[vs, hv], .agg #[v1, v2]] w fun e w' => ∃ u, e = .returned (.tuple #[u, .bool (partO vl hs a).isSome]) ∧ RL w' (fun _ => True) u (partL vl hs a) ∧ Below w.heap.size w w' := by
  obtain ⟨va1, vc1, rfl⟩ := h1.form
  obtain ⟨va2, vc2, rfl⟩ := h2.form
  obtain ⟨xa1, xc1, rfl⟩ := r1.form
  obtain ⟨xa2, xc2, rfl⟩ := r2.form
  obtain ⟨o, ho⟩ : ∃ o, partO vl hs a = o := ⟨_, rfl⟩
  have HO := Lib.hid (And.intro ho (show partL vl hs a = maskO o by rw [partL, ho]))
  go_enter Try.func72, Try.ntmps72
  go_wp2_with fail
  refine (partOf_any _ _ _ _ vl hs a _ (h1.keep Bl) (h2.keep Bl) (r1.keep Bl) (r2.keep Bl)).mono ?_
  rw [ho]
  rintro e w1 ⟨rfl, hb1⟩
  have hb01 : Below w.heap.size w w1 := bt Bl hb1
  cases o with
  | none =>
    clear ho
    go_wp2
    go_ret2
    exact ⟨_, by rw [HO.out.1]; rfl, by rw [HO.out.2]; exact RL.nil _ _, hb01⟩
  | some m =>
    have hm := partO_lt ho
    clear ho
    go_wp2_with fail
    refine (cellList_any m _ hm).mono ?_
    rintro e w2 ⟨u, rfl, hown, hb2⟩
    obtain ⟨ua, uc, hu, _⟩ := own_form hown
    have hr := (own_ints hown).1.rl.any
    subst hu
    go_wp2
    go_ret2
    exact ⟨_, by rw [HO.out.1]; rfl, by rw [HO.out.2]; exact hr, bt hb01 hb2⟩
/-- The state without some cells. -/
def dropW (vl hs : List Int) : Option Nat → List Int × List Int
  | some m => (vl, wTo hs (65535 ^^^ m) 8)
  | none => ([], [])
def dropO (vl hs cl : List Int) : List Int × List Int := dropW vl hs (chosO vl hs cl)
theorem not_val (m : Nat) (hm : m < 65536) : bits .xor .u16 IntKind.u16.max (m : Int) = ((65535 ^^^ m : Nat) : Int) := u16_xor_nat 65535 m (by decide) hm
theorem chosC_lt {hs : List Int} : ∀ (l : List Int) (m r : Nat), m < 65536 → chosC hs m l = some r → r < 65536
  | [], m, r, hm, h => by cases h; exact hm
  | n :: l, m, r, hm, h => by
    rw [chosC] at h
    split at h
    · rename_i hc
      have hn := al_addr hc.1
      exact chosC_lt l _ r (or_lt m n.toNat hm (by omega)) h
    · cases h
theorem chosO_lt {vl hs cl : List Int} {m : Nat} (h : chosO vl hs cl = some m) : m < 65536 ∧ validB vl hs = true := by
  rw [chosO] at h
  split at h
  · rename_i hc
    exact ⟨chosC_lt cl 0 m (by decide) h, hc⟩
  · cases h
set_option maxRecDepth 100000 in
set_option maxHeartbeats 3200000 in
theorem dropCells_any (vs hv cv : Value) (vl hs cl : List Int) (w : World) (h1 : RInts w vs vl) (h2 : RInts w hv hs) (h3 : RInts w cv cl) :
    Calls Try.prog 73 #[.agg #[vs, hv], cv] w fun e w' => ∃ u1 u2, e = .returned (.tuple #[.agg #[u1, u2], .bool (chosO vl hs cl).isSome]) ∧ (RL w' (fun _ => True) u1 (dropO vl hs cl).1 ∧ RL w' (fun _ => True) u2 (dropO vl hs cl).2) ∧ Below w.heap.size w w' := by
  obtain ⟨va1, vc1, rfl⟩ := h1.form
  obtain ⟨va2, vc2, rfl⟩ := h2.form
  obtain ⟨ca, cc, rfl⟩ := h3.form
  obtain ⟨o, ho⟩ : ∃ o, chosO vl hs cl = o := ⟨_, rfl⟩
  have HO := Lib.hid (And.intro ho (show dropO vl hs cl = dropW vl hs o by rw [dropO, ho]))
  have hbA := box_keep (heap_alloc_new w (.cells #[.slice va1 vl.length vc1, .slice va2 hs.length vc2] 77)) (below_alloc _ (.cells #[.slice none 0 0, .slice none 0 0] 77))
  have hbR := heap_alloc_new (w.alloc (.cells #[.slice va1 vl.length vc1, .slice va2 hs.length vc2] 77)) (.cells #[.slice none 0 0, .slice none 0 0] 77)
  rw [World.size_alloc] at hbR
  have hB0 : Below w.heap.size w ((w.alloc (.cells #[.slice va1 vl.length vc1, .slice va2 hs.length vc2] 77)).alloc (.cells #[.slice none 0 0, .slice none 0 0] 77)) := Bl
  go_enter Try.func73, Try.ntmps73
  go_wp2_with fail
  refine (chosenCells_any _ _ _ vl hs cl _ (h1.keep hB0) (h2.keep hB0) (h3.keep hB0)).mono ?_
  rw [ho]
  rintro e w1 ⟨rfl, hb1⟩
  have hA := box_keep hbA hb1
  have hR := box_keep hbR hb1
  have hb01 := bt hB0 hb1
  cases o with
  | none =>
    have r0 := box0 hR
    have r1 := box1 hR
    have rz := boxz hR
    have rl := box_lt hR
    have rr := box_two (.slice none 0 0) (.slice none 0 0) r0 r1
    have hs6 : Fr (fun j => j = w.heap.size + 1) w1 ((w1.setCell ⟨w.heap.size + 1, 0, none⟩ (.slice none 0 0)).setCell ⟨w.heap.size + 1, 1, none⟩ (.slice none 0 0)) := (fr_set w1 ⟨w.heap.size + 1, 0, none⟩ _).trans (fr_set _ ⟨w.heap.size + 1, 1, none⟩ _)
    have HE := Lib.hid (hb01.trans (hs6.below (by omega) fun k hk e => by have e2 : k = w.heap.size + 1 := e; omega))
    clear hs6 hA hR hb01 hb1 hB0 hbA hbR ho
    go_wp2
    refine bodyPost_ret (v := .tuple #[.agg #[.slice none 0 0, .slice none 0 0], .bool false]) (by simp [results, Try.results73, go_sem, rr.1, rr.2]) rfl ?_
    exact ⟨_, _, by rw [HO.out.1]; rfl, by rw [HO.out.2]; exact ⟨RL.nil _ _, RL.nil _ _⟩, HE.out⟩
  | some m =>
    obtain ⟨hm, hv⟩ := chosO_lt ho
    have hl8 := valid_len hv
    have a0 := box0 hA
    have a1 := box1 hA
    have al := box_lt hA
    have HL := Lib.hid hl8
    have k1 := h1.keep hb01
    have k2 := h2.keep hb01
    clear ho hv hl8 hB0 hbA hbR hb1 h1 h2 h3
    go_wp2_with fail
    rw [show bits .xor .u16 IntKind.u16.max ((setN (some m) : Nat) : Int) = ((65535 ^^^ m : Nat) : Int) from not_val m hm]
    refine (stateWith_any _ _ vl hs (65535 ^^^ m) _ k1 k2 HL.out.1 HL.out.2 (Nat.xor_lt_two_pow (n := 16) (by decide) hm)).mono ?_
    rintro e w2 ⟨u1, u2, rfl, ⟨q1, q2⟩, hb2⟩
    obtain ⟨ya1, yn1, yc1, rfl⟩ := q1.forms
    obtain ⟨ya2, yn2, yc2, rfl⟩ := q2.forms
    have hR2 := box_keep hR hb2
    have r0 := box0 hR2
    have r1 := box1 hR2
    have rz := boxz hR2
    have rl := box_lt hR2
    have rr := box_two (.slice ya1 yn1 yc1) (.slice ya2 yn2 yc2) r0 r1
    have hz1 := box_lt hR
    have hs6 : Fr (fun j => j = w.heap.size + 1) w2 ((w2.setCell ⟨w.heap.size + 1, 0, none⟩ (.slice ya1 yn1 yc1)).setCell ⟨w.heap.size + 1, 1, none⟩ (.slice ya2 yn2 yc2)) := (fr_set w2 ⟨w.heap.size + 1, 0, none⟩ _).trans (fr_set _ ⟨w.heap.size + 1, 1, none⟩ _)
    have kS : ∀ k, k < w2.heap.size → (fun k => w1.heap.size + 2 ≤ k) k → ¬ (fun j => j = w.heap.size + 1) k := fun k _ h e => by
      have h2 : w1.heap.size + 2 ≤ k := h
      have e2 : k = w.heap.size + 1 := e
      omega
    have HE := Lib.hid (And.intro (And.intro (q1.kept hs6 kS).any (q2.kept hs6 kS).any) ((bt hb01 hb2).trans (hs6.below (by omega) fun k hk e => by have e2 : k = w.heap.size + 1 := e; omega)))
    clear hs6 kS q1 q2 hR2 hA hR hb01 hb2 k1 k2
    go_wp2
    refine bodyPost_ret (v := .tuple #[.agg #[.slice ya1 yn1 yc1, .slice ya2 yn2 yc2], .bool true]) (by simp [results, Try.results73, go_sem, rr.1, rr.2]) rfl ?_
    exact ⟨_, _, by rw [HO.out.1]; rfl, by rw [HO.out.2]; exact HE.out.1, HE.out.2⟩
end Go.Proofs.Ytapoillhgimdiaa

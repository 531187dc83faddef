/- Walks: the part of a state that an assertion describes: the reference; counts of cells. -/
import Derived.Test.YtapoillhgimdiaaPHold6
import Derived.Test.YtapoillhgimdiaaPShs2
namespace Go.Proofs.Ytapoillhgimdiaa
open Go.RowKit

theorem addsC_bits {hs : List Int} : ∀ (l : List Int) (m r : Nat), (∀ n ∈ l, alB hs n = true) → addsC m l = some r → (∀ j, m.testBit j = true → alB hs (j : Int) = true) → ∀ j, r.testBit j = true → alB hs (j : Int) = true
  | [], m, r, _, h, hm => by simp [addsC] at h; subst h; exact hm
  | n :: l, m, r, ha, h, hm => by
    unfold addsC at h
    split at h
    · simp at h
    · refine addsC_bits l _ r (fun n hn => ha n (List.mem_cons_of_mem _ hn)) h fun j hj => ?_
      rw [testBit_or_pow, Bool.or_eq_true, decide_eq_true_eq] at hj
      rcases hj with hj | rfl
      · exact hm j hj
      · have := ha n List.mem_cons_self
        have := al_addr this
        rw [show ((n.toNat : Nat) : Int) = n by omega]; assumption
theorem partP_bits {vl hs : List Int} (hv : validB vl hs = true) : ∀ (l : List Atom) (m r : Nat), l.all atomB = true → partP vl hs m l = some r → (∀ j, m.testBit j = true → alB hs (j : Int) = true) → ∀ j, r.testBit j = true → alB hs (j : Int) = true
  | [], m, r, _, h, hm => by simp [partP] at h; subst h; exact hm
  | x :: l, m, r, ha, h, hm => by
    rw [List.all_cons, Bool.and_eq_true] at ha
    unfold partP at h
    split at h
    · rename_i hc
      cases hq : addsC m (cellsL vl hs x) with
      | none => rw [hq] at h; simp at h
      | some m' =>
        rw [hq] at h
        exact partP_bits hv l m' r ha.2 h (addsC_bits _ _ _ (cells_mem hv ha.1 hc) hq hm)
    · simp at h
theorem partO_some {vl hs : List Int} {a : Asn} {m : Nat} (h : partO vl hs a = some m) : validB vl hs = true ∧ asnB a = true ∧ a.1.all (factT vl) = true ∧ partP vl hs 0 a.2 = some m := by
  unfold partO at h
  split at h
  · rename_i hc
    simp only [Bool.and_eq_true] at hc
    exact ⟨hc.1, hc.2.1, hc.2.2, h⟩
  · simp at h
theorem partO_bits {vl hs : List Int} {a : Asn} {m : Nat} (h : partO vl hs a = some m) : ∀ j, m.testBit j = true → alB hs (j : Int) = true := by
  obtain ⟨hv, ha, _, hp⟩ := partO_some h
  simp only [asnB, Bool.and_eq_true] at ha
  exact partP_bits hv _ _ _ ha.2.2 hp fun j hj => by simp at hj
/-- An assertion holds in a state. -/
def holdsB (vl hs : List Int) (a : Asn) : Bool := match partO vl hs a with | some m => m == usedN hs 8 | none => false
theorem sub_filter {p q : Nat → Bool} : ∀ l : List Nat, (∀ x ∈ l, p x = true → q x = true) → (l.filter p).length ≤ (l.filter q).length ∧ ((l.filter p).length = (l.filter q).length → ∀ x ∈ l, p x = q x)
  | [], _ => by simp
  | x :: l, h => by
    have ih := sub_filter l fun y hy => h y (List.mem_cons_of_mem _ hy)
    have hx := h x List.mem_cons_self
    rw [List.filter_cons, List.filter_cons]
    cases hp : p x with
    | true =>
      rw [hp] at hx
      have hq := hx rfl
      rw [hq]
      simp only [if_true, List.length_cons]
      refine ⟨by omega, fun he y hy => ?_⟩
      rcases List.mem_cons.1 hy with rfl | hy
      · rw [hp, hq]
      · exact ih.2 (by omega) y hy
    | false =>
      cases hq : q x with
      | true =>
        simp only [if_true, List.length_cons, Bool.false_eq_true, if_false]
        exact ⟨by omega, fun he => by omega⟩
      | false =>
        simp only [Bool.false_eq_true, if_false]
        refine ⟨ih.1, fun he y hy => ?_⟩
        rcases List.mem_cons.1 hy with rfl | hy
        · rw [hp, hq]
        · exact ih.2 he y hy
theorem used_set {hs : List Int} {m : Nat} (h : ∀ j, m.testBit j = true → alB hs (j : Int) = true) :
    ((sel (fun n => m.testBit n) 0 9).length = (usedA' hs).length) ↔ m = usedN hs 8 := by
  have h0 : m.testBit 0 = false := by
    cases hb : m.testBit 0 with
    | false => rfl
    | true => exact absurd (al_addr (h 0 hb)).1 (by decide)
  have e : sel (fun n => m.testBit n) 0 9 = sel (fun n => m.testBit n) 1 8 := by
    unfold sel
    rw [show List.range' 0 9 = 0 :: List.range' 1 8 from rfl, List.filter_cons, h0]; rfl
  rw [e]
  unfold usedA' sel
  rw [List.length_map, List.length_map]
  have hs8 := sub_filter (p := fun n => m.testBit n) (q := fun n : Nat => alB hs (n : Int)) (List.range' 1 8) fun x _ hx => h x hx
  constructor
  · intro he
    refine Nat.eq_of_testBit_eq fun j => ?_
    rw [usedN_bit]
    by_cases hj : 1 ≤ j ∧ j ≤ 8
    · rw [decide_eq_true hj, Bool.true_and]
      exact hs8.2 he j (by rw [List.mem_range'_1]; omega)
    · rw [decide_eq_false hj, Bool.false_and]
      cases hb : m.testBit j with
      | false => rfl
      | true => exact absurd (al_addr (h j hb)) (by omega)
  · rintro rfl
    congr 1
    refine List.filter_congr fun x hx => ?_
    rw [List.mem_range'_1] at hx
    rw [usedN_bit, decide_eq_true (by omega), Bool.true_and]
theorem holds_none {vl hs : List Int} {a : Asn} (h : partO vl hs a = none) : holdsB vl hs a = false := by rw [holdsB, h]
theorem holds_some {vl hs : List Int} {a : Asn} {m : Nat} (h : partO vl hs a = some m) : holdsB vl hs a = (m == usedN hs 8) := by rw [holdsB, h]
theorem holds_count {vl hs : List Int} {a : Asn} {m : Nat} (h : partO vl hs a = some m) : (((sel (fun n => m.testBit n) 0 9).length : Int) == ((usedA' hs).length : Int)) = holdsB vl hs a := by
  rw [holds_some h, Bool.eq_iff_iff, beq_iff_eq, beq_iff_eq, ← used_set (partO_bits h)]
  omega

theorem mk9 (w : World) : (Instr.makeSlice 105 (.int .i64 9) (.int .i64 9)).run Try.prog w =
    .ok (.slice (some ⟨w.heap.size, 0, none⟩) 9 9) (w.alloc (.cells #[.bool false, .bool false, .bool false, .bool false, .bool false, .bool false, .bool false, .bool false, .bool false] 4)) := by kernel_rfl
theorem own9 (w : World) (B : Nat) (hB : B ≤ w.heap.size) :
    (w.alloc (.cells #[.bool false, .bool false, .bool false, .bool false, .bool false, .bool false, .bool false, .bool false, .bool false] 4)).ownsRow B 4 1 (.slice (some ⟨w.heap.size, 0, none⟩) 9 9) 9 (flagsOf 0) :=
  World.ownsRow_lit (size := 1) w _ 9 hB (by unfold maxLen; omega) rfl
set_option maxRecDepth 100000 in
set_option maxHeartbeats 3200000 in
theorem l4Part_any {S1 S2 : Nat → Prop} (vs hv v1 v2 : Value) (vl hs : List Int) (a : Asn) (w : World) (h1 : RInts w vs vl) (h2 : RInts w hv hs) (r1 : RL w S1 v1 a.1) (r2 : RL w S2 v2 a.2) (hvd : validB vl hs = true) (hav : asnB a = true) :
    Calls Try.prog 209 #[.agg #[vs, hv], .agg #[v1, v2]] w fun e w' => ∃ v m, e = .returned (.tuple #[v, .bool (partO vl hs a).isSome]) ∧ w'.ownsRow w.heap.size 4 1 v 9 (flagsOf m) ∧ (∀ m', partO vl hs a = some m' → m' = m) ∧ Below w.heap.size w w' := by
  have hmk := mk9
  obtain ⟨va1, vc1, rfl⟩ := h1.form
  obtain ⟨va2, vc2, rfl⟩ := h2.form
  obtain ⟨xa1, xc1, rfl⟩ := r1.form
  have hm := r2.len
  unfold maxLen at hm
  obtain ⟨xa2, xc2, rfl, _, _, hf⟩ := r2.atomAt
  have F1 := Lib.hid hf
  clear hf
  have hfa := asn_facts hav
  have hl8 := valid_len hvd
  obtain ⟨fb, hfb⟩ : ∃ b, a.1.all (factT vl) = b := ⟨_, rfl⟩
  have HFV := Lib.hid hfb
  have HL8 := Lib.hid (And.intro hl8 hfa)
  have hfl := own9 ((w.alloc (.cells #[.slice va1 vl.length vc1, .slice va2 hs.length vc2] 77)).alloc (.cells #[.slice xa1 a.1.length xc1, .slice xa2 a.2.length xc2] 33)) w.heap.size (by simp; omega)
  simp only [World.size_alloc] at hfl
  have HFL := Lib.hid hfl
  clear hfl
  cases fb
  · have HR := Lib.hid (show partO vl hs a = none by simp [partO, hvd, hav, hfb])
    clear hvd hav hfb hfa hl8
    go_enter Try.func209, Try.ntmps209
    go_wp2_with fail
    refine (cb (l1Hold_any _ _ a.1 vl _ (r1.keep Bl) (h1.keep Bl) HL8.out.2 HL8.out.1.1) HFV.out).mono ?_
    rintro e w1 ⟨rfl, hb1⟩
    have ho := own_keep HFL.out hb1
    go_wp2
    go_ret2
    exact ⟨_, 0, by rw [HR.out]; rfl, ho, (fun m' h => by rw [HR.out] at h; cases h), bt Bl hb1⟩
  have hres : partO vl hs a = partP vl hs 0 (a.2.drop 0) := by simp [partO, hvd, hav, hfb]
  have HRES := Lib.hid hres
  have HV := Lib.hid (And.intro hvd hav)
  clear hvd hav hfb hfa hl8 hres
  go_enter Try.func209, Try.ntmps209
  go_wp2_with fail
  refine (cb (l1Hold_any _ _ a.1 vl _ (r1.keep Bl) (h1.keep Bl) HL8.out.2 HL8.out.1.1) HFV.out).mono ?_
  rintro e w1 ⟨rfl, hb1⟩
  have ho := own_keep HFL.out hb1
  have hc0 := cell_keep hb1 (p := ⟨w.heap.size, 0, none⟩) (v := .slice va1 vl.length vc1) (by simp [go_sem])
  have hc1 := cell_keep hb1 (p := ⟨w.heap.size, 1, none⟩) (v := .slice va2 hs.length vc2) (by simp [go_sem])
  have hc2 := cell_keep hb1 (p := ⟨w.heap.size + 1, 0, none⟩) (v := .slice xa1 a.1.length xc1) (by simp [go_sem])
  have hc3 := cell_keep hb1 (p := ⟨w.heap.size + 1, 1, none⟩) (v := .slice xa2 a.2.length xc2) (by simp [go_sem])
  have hb01 : Below w.heap.size w w1 := bt Bl hb1
  clear hb1
  go_wp2
  go_loopg [7] a.2.length (fun q i wr => ∃ (k m : Nat), k + q = a.2.length ∧ i = .int .i64 k ∧ m < 65536 ∧ partO vl hs a = partP vl hs m (a.2.drop k) ∧ wr.ownsRow w.heap.size 4 1 (.slice (some ⟨w.heap.size + 1 + 1, 0, none⟩) 9 9) 9 (flagsOf m) ∧ (wr.cell? ⟨w.heap.size, 0, none⟩ = some (.slice va1 vl.length vc1) ∧ wr.cell? ⟨w.heap.size, 1, none⟩ = some (.slice va2 hs.length vc2)) ∧ (wr.cell? ⟨w.heap.size + 1, 0, none⟩ = some (.slice xa1 a.1.length xc1) ∧ wr.cell? ⟨w.heap.size + 1, 1, none⟩ = some (.slice xa2 a.2.length xc2)) ∧ Below w.heap.size w wr)
  case atStart => exact ⟨0, 0, by omega, rfl, by omega, HRES.out, ho, ⟨hc0, hc1⟩, ⟨hc2, hc3⟩, hb01⟩
  case round =>
    clear hc0 hc1 hc2 hc3 ho hb01
    obtain ⟨k, m, hk, rfl, hm6, hp, ho, ⟨hc0, hc1⟩, ⟨hc2, hc3⟩, hb⟩ := hrel
    have HK := Lib.hid hk
    have HP := Lib.hid hp
    clear hk hp
    have hzs : w.heap.size < wr.heap.size := World.block_lt_of_cell? wr _ hc0
    have hzt : w.heap.size + 1 < wr.heap.size := World.block_lt_of_cell? wr _ hc2
    by_cases hk8 : k < a.2.length
    · obtain ⟨b1, o1, rfl, _, hbl1, hp1, hp2, hp3⟩ := F1.out k hk8
      replace hp1 := cell_keep hb hp1
      replace hp2 := cell_keep hb hp2
      replace hp3 := cell_keep hb hp3
      have hat := asn_atom HV.out.2 k hk8
      have hki : (k : Int) < (a.2.length : Int) := by omega
      have hzb : b1 < wr.heap.size := World.block_lt_of_cell? wr _ hp1
      obtain ⟨gO, hgO⟩ : ∃ g, g = gk := ⟨_, rfl⟩
      have HGO := Lib.hid hgO
      have HAT := Lib.hid hat
      have HO := Lib.hid ho
      have HFLG := (HO.out.lt _ rfl).2
      clear hgO hat ho
      obtain ⟨cb0, hcb⟩ : ∃ b, cellsB vl hs (gd a.2 k) = b := ⟨_, rfl⟩
      obtain ⟨cl, hcl⟩ : ∃ c, cellsL vl hs (gd a.2 k) = c := ⟨_, rfl⟩
      have HCB := Lib.hid (And.intro hcb hcl)
      clear hcb hcl
      go_wp2
      go_region_held3 (fun w' => (w'.cell? ⟨w.heap.size, 0, none⟩ = some (.slice va1 vl.length vc1) ∧ w'.cell? ⟨w.heap.size, 1, none⟩ = some (.slice va2 hs.length vc2)) ∧ (w'.cell? ⟨w.heap.size + 1, 0, none⟩ = some (.slice xa1 a.1.length xc1) ∧ w'.cell? ⟨w.heap.size + 1, 1, none⟩ = some (.slice (some ⟨b1, o1, none⟩) a.2.length xc2)) ∧ (w'.cell? ⟨b1, o1 + k * 3, none⟩ = some (.int .i64 (gd a.2 k).1) ∧ w'.cell? ⟨b1, o1 + k * 3 + 1, none⟩ = some (.int .i64 (gd a.2 k).2.1) ∧ w'.cell? ⟨b1, o1 + k * 3 + 2, none⟩ = some (.int .i64 (gd a.2 k).2.2)))
        (exact ⟨⟨cell_keep Bl hc0, cell_keep Bl hc1⟩, ⟨cell_keep Bl hc2, cell_keep Bl hc3⟩, cell_keep Bl hp1, cell_keep Bl hp2, cell_keep Bl hp3⟩)
        (first
          | (go_at_call 240; go_must (refine (l4Cells_any _ _ vl hs (gd a.2 k) _ (h1.keep (bt hb Bl)) (h2.keep (bt hb Bl)) HV.out.1 HAT.out).mono ?_; rintro e w5 ⟨v5, rfl, hown5, hb5'⟩; have hb5 : Below wr.heap.size wr w5 := bt Bl hb5')))
      all_goals
        rw [HCB.out.2] at hown5
        simp only [World.size_drew] at hown5
        obtain ⟨ya, yc, rfl⟩ := (own_ints hown5).1.form
        have hlm := (own_ints hown5).1.len
        unfold maxLen at hlm
        replace hc0 := cell_keep hb5 hc0
        replace hc1 := cell_keep hb5 hc1
        replace hc2 := cell_keep hb5 hc2
        replace hc3 := cell_keep hb5 hc3
        have ho := own_keep HO.out hb5
        have hb05 := bt hb hb5
        have HLB := Lib.hid (fun j (hj : some j = (Value.slice ya cl.length yc).ownBlock) => (own_lt hown5 hj))
        rw [HCB.out.1]
        cases cb0
        · have HR := Lib.hid (show partO vl hs a = none by rw [HP.out, partP_bad hk8 HCB.out.1])
          go_wp2
          go_ret2
          exact ⟨_, m, by rw [HR.out]; rfl, ho, (fun m' h => by rw [HR.out] at h; cases h), hb05⟩
        go_wp2
        go_loopg [10] cl.length (fun q i wr => ∃ (j n : Nat), j + q = cl.length ∧ i = .int .i64 j ∧ n < 65536 ∧ addsC m cl = addsC n (cl.drop j) ∧ wr.ownsRow w.heap.size 4 1 (.slice (some ⟨w.heap.size + 1 + 1, 0, none⟩) 9 9) 9 (flagsOf n) ∧ RInts wr (.slice ya cl.length yc) cl ∧ (wr.cell? ⟨w.heap.size, 0, none⟩ = some (.slice va1 vl.length vc1) ∧ wr.cell? ⟨w.heap.size, 1, none⟩ = some (.slice va2 hs.length vc2)) ∧ (wr.cell? ⟨w.heap.size + 1, 0, none⟩ = some (.slice xa1 a.1.length xc1) ∧ wr.cell? ⟨w.heap.size + 1, 1, none⟩ = some (.slice (some ⟨b1, o1, none⟩) a.2.length xc2)) ∧ Below w.heap.size w wr)
        case atStart => exact ⟨0, m, by omega, rfl, hm6, rfl, ho, (own_ints hown5).1, ⟨hc0, hc1⟩, ⟨hc2, hc3⟩, hb05⟩
        case round =>
          clear hc0 hc1 hc2 hc3 ho hb05 hown5 hb5 hb5' hp1 hp2 hp3
          obtain ⟨j, n, hj, rfl, hn6, hadd, ho, hri, ⟨hc0, hc1⟩, ⟨hc2, hc3⟩, hbj⟩ := hrel
          have HJ := Lib.hid hj
          have HA := Lib.hid hadd
          clear hj hadd
          by_cases hj8 : j < cl.length
          · obtain ⟨c, hcn⟩ : ∃ c : Nat, gi cl j = (c : Int) := ⟨(gi cl j).toNat, by have := al_addr (cells_mem HV.out.1 HAT.out HCB.out.1 _ (by rw [HCB.out.2]; exact gi_mem hj8)); omega⟩
            have hc9 : 1 ≤ c ∧ c < 9 := by have := al_addr (cells_mem HV.out.1 HAT.out HCB.out.1 _ (by rw [HCB.out.2]; exact gi_mem hj8)); omega
            have hc9' : (c : Int) < 9 := by omega
            have hji : (j : Int) < (cl.length : Int) := by omega
            have hR := Lib.hid hri
            obtain ⟨vb, vo, vcap, hfe, _, _, hcell⟩ := hri.ne (by omega)
            simp only [Value.slice.injEq] at hfe
            obtain ⟨rfl, hh, rfl⟩ := hfe
            clear hh
            have hck := hcell j hj8
            rw [hcn] at hck
            clear hcell
            have hzv : vb < wr.heap.size := World.block_lt_of_cell? wr _ hck
            have hfc : wr.cell? ⟨w.heap.size + 1 + 1, c, none⟩ = some (.bool (n.testBit c)) := by
              have := ho.cellAt c (by omega)
              rw [flags_at n c hc9.2] at this
              simpa using this
            have hne : ¬ vb = w.heap.size + 1 + 1 := by have := (HLB.out vb rfl).1; omega
            have had : isAddrB (c : Int) = true := isAddrB_iff.2 (by omega)
            cases hh : n.testBit c
            · have hhb : hasB n (gi cl j) = false := by rw [hcn, hasB, had]; simpa using hh
              have hst := addsC_step hj8 hhb
              rw [hcn] at hst
              rw [hh] at hfc
              have HST := Lib.hid hst
              have hfz := ho.frozenAt c
              obtain ⟨hst1, hst2⟩ := ho.stored c (.bool true)
              clear hst hh hhb hcn ho
              go_wp2
              go_roundg (gk - 1)
              case rel =>
                have hfr := (grown_fr hst2)
                refine ⟨j + 1, n ||| 2 ^ c, by have := HJ.out; omega, by go_num, or_lt n c hn6 (by omega), by rw [HA.out, HST.out]; rfl, by rw [← flags_set n c hc9.2]; exact hst1, hR.out.kept hfr (fun k hk e => ?_), ⟨hfr.cell ?_ hc0, hfr.cell ?_ hc1⟩, ⟨hfr.cell ?_ hc2, hfr.cell ?_ hc3⟩, hbj.trans (hfr.below hbj.size fun k _ e => ?_)⟩
                · have e2 : k = w.heap.size + 1 + 1 := Option.some.inj e
                  have := (HLB.out k hk.symm).1
                  omega
                · intro e; have := Option.some.inj e; simp at this; omega
                · intro e; have := Option.some.inj e; simp at this; omega
                · intro e; have := Option.some.inj e; simp at this
                · intro e; have := Option.some.inj e; simp at this
                · have := Option.some.inj e; omega
              case measure => have := HJ.out; omega
            · have hhb : hasB n (gi cl j) = true := by rw [hcn, hasB, had]; simpa using hh
              have hst := addsC_stop hj8 hhb
              rw [hh] at hfc
              have HR := Lib.hid (show partO vl hs a = none by rw [HP.out, partP_none hk8 HCB.out.1 (by rw [HCB.out.2, HA.out, hst])])
              clear hst hh hhb hcn
              go_wp2
              go_ret2
              exact ⟨_, n, by rw [HR.out]; rfl, ho, (fun m' h => by rw [HR.out] at h; cases h), hbj⟩
          · obtain rfl : j = cl.length := by have := HJ.out; omega
            have hend : partO vl hs a = partP vl hs n (a.2.drop (k + 1)) := by
              rw [HP.out]; refine partP_some hk8 HCB.out.1 ?_
              rw [HCB.out.2, HA.out, List.drop_length]; rfl
            have HE := Lib.hid hend
            clear hend
            go_wp2
            go_roundg (gO - 1)
            case rel => exact ⟨k + 1, n, by have := HK.out; have := HGO.out; omega, by go_num, hn6, HE.out, ho, ⟨hc0, hc1⟩, ⟨hc2, hc3⟩, hbj⟩
            case measure => have := HK.out; have := HGO.out; omega
    · obtain rfl : k = a.2.length := by have := HK.out; omega
      have HR := Lib.hid (show partO vl hs a = some m by rw [HP.out, List.drop_length]; rfl)
      go_wp2
      go_ret2
      exact ⟨_, m, by rw [HR.out]; rfl, ho, (fun m' h => by rw [HR.out] at h; cases h; rfl), hb⟩
end Go.Proofs.Ytapoillhgimdiaa

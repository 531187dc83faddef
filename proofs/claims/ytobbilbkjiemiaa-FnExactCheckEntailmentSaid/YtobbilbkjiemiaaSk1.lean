/- Walks: cases: the reference: early tests, a case of an entailment. -/
import Derived.Test.YtobbilbkjiemiaaMtc3
import Derived.Test.YtobbilbkjiemiaaCaseB
import Derived.Test.YtobbilbkjiemiaaMtc2
namespace Go.Proofs.Ytobbilbkjiemiaa
open Go.RowKit

theorem hasT_nat {m c : Nat} (h : c ≤ 8) : hasT m (c : Int) = m.testBit c := by
  rw [hasT, isTermB_iff.2 (by omega), Bool.true_and, Int.toNat_natCast]
theorem early_step {cl : List Int} {m k : Nat} {l : List Atom} (h : k < l.length) : earlyE cl m (l.drop k) = if (gd l k).1 ≠ 1 ∨ gi cl (gd l k).2.1.toNat < 0 then earlyE cl m (l.drop (k + 1)) else
    if (gi cl (gd l k).2.1.toNat == 0 || hasT m (gi cl (gd l k).2.1.toNat)) = true then false else earlyE cl (termM m (gi cl (gd l k).2.1.toNat)) (l.drop (k + 1)) := by
  rw [drop_gd' h, earlyE]
set_option maxRecDepth 100000 in
set_option maxHeartbeats 3200000 in
theorem l5Early_any {S : Nat → Prop} (v cv : Value) (l : List Atom) (cl : List Int) (w : World) (h : RL w S v l) (hc : RInts w cv cl) (hx : l.all atomB = true) (hc9 : cl.length = 9) (h8 : ∀ i, i < 9 → gi cl i ≤ 8) :
    Calls Try.prog 205 #[v, cv] w fun e w' => e = .returned (.bool (earlyE cl 0 l)) ∧ Below w.heap.size w w' := by
  have hmk := mk9T
  have hm := h.len
  unfold maxLen at hm
  obtain ⟨a, c, rfl, _, _, hf1⟩ := h.atomAt
  have F1 := Lib.hid hf1
  have HB := Lib.hid (all_of hx)
  obtain ⟨cb, co, cc, rfl, _, _, hcell⟩ := hc.ne (by omega)
  have HC := Lib.hid hcell
  have HC9 := Lib.hid hc9
  have H8 := Lib.hid h8
  have hbw := bw_own (own9T w w.heap.size (Nat.le_refl _))
  have HBW := Lib.hid hbw
  clear hf1 h hx hcell hc9 hc h8 hbw
  go_enter Try.func205, Try.ntmps205
  go_wp2
  go_loopg [6] l.length (fun q i wr => ∃ k m : Nat, k + q = l.length ∧ i = .int .i64 k ∧ earlyE cl 0 l = earlyE cl m (l.drop k) ∧ BW wr w.heap.size 9 m ∧ Below w.heap.size w wr)
  case atStart => exact ⟨0, 0, by omega, rfl, rfl, HBW.out, below_alloc _ _⟩
  case round =>
    clear hmk
    obtain ⟨k, m, hk, rfl, he, hbw, hb⟩ := hrel
    have HK := Lib.hid hk
    have HE := Lib.hid he
    clear hk he
    by_cases hk8 : k < l.length
    · obtain ⟨b1, o1, rfl, _, hbl1, hp1, hp2, hp3⟩ := F1.out k hk8
      replace hp1 := cell_keep hb hp1; replace hp2 := cell_keep hb hp2
      have hs := hb.size
      have i1 : (k : Int) < (l.length : Int) := by omega
      have hzb : b1 < wr.heap.size := by omega
      have hst := early_step (cl := cl) (m := m) hk8
      obtain ⟨t1, t2, _, _⟩ := atomB_le' (HB.out k hk8)
      obtain ⟨i, hi⟩ := Int.eq_ofNat_of_zero_le t1
      have hi9 : (i : Int) < (cl.length : Int) := by rw [HC9.out]; omega
      have hi' : i < cl.length := by rw [HC9.out]; omega
      have hci := cell_keep hb (HC.out i hi')
      have hzc : cb < wr.heap.size := World.block_lt_of_cell? wr _ hci
      have hc8 := H8.out i (by omega)
      rw [hi] at hp2 hst
      rw [Int.toNat_natCast] at hst
      obtain ⟨C, hC⟩ : ∃ x, gi cl i = x := ⟨_, rfl⟩
      obtain ⟨K1, hK1⟩ : ∃ x, (gd l k).1 = x := ⟨_, rfl⟩
      rw [hC] at hci hst hc8
      rw [hK1] at hp1 hst
      clear hi t1 t2 hC hK1 hp3 hi'
      by_cases hk1 : K1 = 1
      · have hkb : (K1 != 1) = false := by simp [hk1]
        by_cases hc0 : C < 0
        · have HN := Lib.hid (show earlyE cl 0 l = earlyE cl m (l.drop (k + 1)) by rw [HE.out, hst, if_pos (.inr hc0)])
          clear hst hk1
          go_wp2
          go_roundg (gk - 1)
          case rel => exact ⟨k + 1, m, by have := HK.out; omega, by go_num, HN.out, hbw, hb⟩
          case measure => have := HK.out; omega
        obtain ⟨n, rfl⟩ := Int.eq_ofNat_of_zero_le (show 0 ≤ C by omega)
        have hn8 : n ≤ 8 := by omega
        have hn9 : (n : Int) < 9 := by omega
        rw [if_neg (by rintro (h | h); exact h hk1; exact hc0 h), hasT_nat hn8, termM_nat hn8] at hst
        have hbit := hbw.cell n (by omega)
        have hfz := hbw.fz n (by omega)
        have hzw := hbw.lt
        by_cases hn0 : n = 0
        · have hnb : ((n : Int) == 0) = true := by simp [hn0]
          have HN := Lib.hid (show earlyE cl 0 l = false by rw [HE.out, hst, if_pos (by rw [hnb]; rfl)])
          clear hst hk1 hn0
          go_wp2
          go_returns
          exact ⟨by rw [HN.out]; rfl, hb⟩
        have hnb : ((n : Int) == 0) = false := by simp [hn0]
        cases hbt : m.testBit n with
        | true =>
          rw [hbt] at hbit
          have HN := Lib.hid (show earlyE cl 0 l = false by rw [HE.out, hst, if_pos (by rw [hbt]; simp)])
          clear hst hk1 hn0 hbt
          go_wp2
          go_returns
          exact ⟨by rw [HN.out]; rfl, hb⟩
        | false =>
          rw [hbt] at hbit
          have HN := Lib.hid (show earlyE cl 0 l = earlyE cl (m ||| 2 ^ n) (l.drop (k + 1)) by rw [HE.out, hst, if_neg (by rw [hbt, hnb]; simp)])
          clear hst hk1 hn0 hbt
          have H2 := Lib.hid (hbw.set (i := n) (by omega))
          clear hbw
          go_wp2
          go_roundg (gk - 1)
          case rel => exact ⟨k + 1, m ||| 2 ^ n, by have := HK.out; omega, by go_num, HN.out, H2.out, hb.setCell (p := ⟨w.heap.size, n, none⟩) (Nat.le_refl _) _⟩
          case measure => have := HK.out; omega
      · have hkb : (K1 != 1) = true := by simp [hk1]
        have HN := Lib.hid (show earlyE cl 0 l = earlyE cl m (l.drop (k + 1)) by rw [HE.out, hst, if_pos (.inl hk1)])
        clear hst hk1
        go_wp2
        go_roundg (gk - 1)
        case rel => exact ⟨k + 1, m, by have := HK.out; omega, by go_num, HN.out, hbw, hb⟩
        case measure => have := HK.out; omega
    · obtain rfl : k = l.length := by have := HK.out; omega
      have HN := Lib.hid (show earlyE cl 0 l = true by rw [HE.out, List.drop_length]; rfl)
      go_wp2
      go_returns
      exact ⟨by rw [HN.out]; rfl, hb⟩
theorem filled_kinds {cl : List Int} {l : List Atom} (h : l.all atomB = true) : ∀ y ∈ filledL cl l, y.1 = 1 ∨ (y.1 = 2 ∧ y.2.1 ≠ y.2.2) := fun y hy => by
  obtain ⟨x, hx, rfl⟩ := List.mem_map.1 hy
  obtain ⟨hx1, hx2⟩ := List.mem_filter.1 hx
  have hk := (List.all_eq_true.1 h) x hx1
  simp only [atomB, Bool.and_eq_true, Bool.or_eq_true, beq_iff_eq] at hk
  simp only [fillC, Bool.or_eq_true, beq_iff_eq, bne_iff_ne] at hx2
  simp only [atC]
  rcases hk.1 with h1 | h1
  · exact .inl h1
  · rcases hx2 with h2 | h2
    · exact .inl h2
    · exact .inr ⟨h1, h2⟩
set_option maxRecDepth 100000 in
set_option maxHeartbeats 3200000 in
theorem l6Case_any {S1 S2 S3 S4 : Nat → Prop} (v1 v2 u1 u2 cv : Value) (a b : Asn) (cl : List Int) (w : World) (h1 : RL w S1 v1 a.1) (h2 : RL w S2 v2 a.2) (k1 : RL w S3 u1 b.1) (k2 : RL w S4 u2 b.2) (hc : RInts w cv cl)
    (ha : asnB a = true) (hb : asnB b = true) (hc9 : cl.length = 9) :
    Calls Try.prog 173 #[.agg #[v1, v2], .agg #[u1, u2], cv] w fun e w' => e = .returned (.bool (b.1.all (fitsF cl) && (mtchF (filledL cl a.2) (filledL cl b.2)).isSome)) ∧ Below w.heap.size w w' := by
  obtain ⟨xa1, xc1, rfl⟩ := h1.form
  obtain ⟨xa2, xc2, rfl⟩ := h2.form
  obtain ⟨ya1, yc1, rfl⟩ := k1.form
  obtain ⟨ya2, yc2, rfl⟩ := k2.form
  obtain ⟨ca, cc, rfl⟩ := hc.form
  have fa := asn_all' ha
  have fb := asn_all' hb
  have FA := Lib.hid (And.intro fa fb)
  have HC9 := Lib.hid hc9
  have hl2 : (a.2.length ≤ 1048576 ∧ b.2.length ≤ 1048576) ∧ (filledL cl a.2).length ≤ 6 := ⟨⟨by have := fa.2; omega, by have := fb.2; omega⟩, Nat.le_trans (filledL_len _ _) fa.2⟩
  have HL2 := Lib.hid hl2
  obtain ⟨fbb, hfb⟩ : ∃ r, b.1.all (fitsF cl) = r := ⟨_, rfl⟩
  obtain ⟨q, hq⟩ : ∃ r, (mtchF (filledL cl a.2) (filledL cl b.2)).isSome = r := ⟨_, rfl⟩
  rw [hfb, hq]
  have HFB := Lib.hid hfb
  have HQ := Lib.hid hq
  have HKD := Lib.hid (filled_kinds (cl := cl) fb.1.2)
  have hc1 : ((w.alloc (.cells #[.slice xa1 a.1.length xc1, .slice xa2 a.2.length xc2] 33)).alloc (.cells #[.slice ya1 b.1.length yc1, .slice ya2 b.2.length yc2] 33)).cell? ⟨w.heap.size, 1, none⟩ = some (.slice xa2 a.2.length xc2) := by simp [go_sem]
  have hd0 : ((w.alloc (.cells #[.slice xa1 a.1.length xc1, .slice xa2 a.2.length xc2] 33)).alloc (.cells #[.slice ya1 b.1.length yc1, .slice ya2 b.2.length yc2] 33)).cell? ⟨w.heap.size + 1, 0, none⟩ = some (.slice ya1 b.1.length yc1) := by simp [go_sem]
  have hd1 : ((w.alloc (.cells #[.slice xa1 a.1.length xc1, .slice xa2 a.2.length xc2] 33)).alloc (.cells #[.slice ya1 b.1.length yc1, .slice ya2 b.2.length yc2] 33)).cell? ⟨w.heap.size + 1, 1, none⟩ = some (.slice ya2 b.2.length yc2) := by simp [go_sem]
  have hW : Below w.heap.size w ((w.alloc (.cells #[.slice xa1 a.1.length xc1, .slice xa2 a.2.length xc2] 33)).alloc (.cells #[.slice ya1 b.1.length yc1, .slice ya2 b.2.length yc2] 33)) := (by repeat (first | exact Below.refl _ _ | with_reducible assumption | exact below_alloc _ _ | (refine Below.setCell ?_ (by first | (simp; done) | (simp; omega) | omega) _) | apply bd | apply ba | apply be))
  have HX := Lib.hid (And.intro hc1 (And.intro (And.intro hd0 hd1) hW))
  clear fa fb hl2 hfb hq ha hb hc9 hc1 hd0 hd1 hW
  go_enter Try.func173, Try.ntmps173
  go_wp2
  generalize ((w.alloc (.cells #[.slice xa1 a.1.length xc1, .slice xa2 a.2.length xc2] 33)).alloc (.cells #[.slice ya1 b.1.length yc1, .slice ya2 b.2.length yc2] 33)) = w0 at HX ⊢
  have hc1 := HX.out.1
  have hd0 := HX.out.2.1.1
  have hd1 := HX.out.2.1.2
  have hW := HX.out.2.2
  have q2 := h2.keep hW
  have q3 := k1.keep hW
  have q4 := k2.keep hW
  have qc := hc.keep hW
  have z1 := World.block_lt_of_cell? w0 _ hc1
  have z2 := World.block_lt_of_cell? w0 _ hd0
  simp only at z1 z2
  clear h1 h2 k1 k2 hc
  cases fbb with
  | false =>
    refine wp_region_ext (by kernel_rfl) (by kernel_rfl) ?_
    repeat (go_big_quiet_step ((go_at_call 151; first
      | with_reducible exact ext_c (cb (l5Fits_any (.slice ya1 b.1.length yc1) (.slice ca cl.length cc) b.1 cl _ (q3.keep (ext_below _ _)) (qc.keep (ext_below _ _)) FA.out.2.1.1 HC9.out) HFB.out))))
    refine wpQuiet_nil ?_
    intro w5 hb5
    go_wp2
    go_returns
    exact ⟨rfl, bt hW hb5⟩
  | true =>
    go_region_held3 (fun w' => w'.cell? ⟨w.heap.size, 1, none⟩ = some (.slice xa2 a.2.length xc2) ∧ (w'.cell? ⟨w.heap.size + 1, 0, none⟩ = some (.slice ya1 b.1.length yc1) ∧ w'.cell? ⟨w.heap.size + 1, 1, none⟩ = some (.slice ya2 b.2.length yc2)))
      (exact ⟨cell_keep (by repeat (first | exact Below.refl _ _ | with_reducible assumption | exact below_alloc _ _ | (refine Below.setCell ?_ (by first | (simp; done) | (simp; omega) | omega) _) | apply bd | apply ba | apply be)) hc1, cell_keep (by repeat (first | exact Below.refl _ _ | with_reducible assumption | exact below_alloc _ _ | (refine Below.setCell ?_ (by first | (simp; done) | (simp; omega) | omega) _) | apply bd | apply ba | apply be)) hd0, cell_keep (by repeat (first | exact Below.refl _ _ | with_reducible assumption | exact below_alloc _ _ | (refine Below.setCell ?_ (by first | (simp; done) | (simp; omega) | omega) _) | apply bd | apply ba | apply be)) hd1⟩)
      (first
        | (go_at_call 151; (with_reducible refine (cb (l5Fits_any (.slice ya1 b.1.length yc1) (.slice ca cl.length cc) b.1 cl _ (q3.keep (by repeat (first | exact Below.refl _ _ | with_reducible assumption | exact below_alloc _ _ | (refine Below.setCell ?_ (by first | (simp; done) | (simp; omega) | omega) _) | apply bd | apply ba | apply be))) (qc.keep (by repeat (first | exact Below.refl _ _ | with_reducible assumption | exact below_alloc _ _ | (refine Below.setCell ?_ (by first | (simp; done) | (simp; omega) | omega) _) | apply bd | apply ba | apply be))) FA.out.2.1.1 HC9.out) HFB.out).mono ?_); rintro e w2 ⟨rfl, hb2'⟩; have hb2 : Below w0.heap.size w0 w2 := bt (by repeat (first | exact Below.refl _ _ | with_reducible assumption | exact below_alloc _ _ | (refine Below.setCell ?_ (by first | (simp; done) | (simp; omega) | omega) _) | apply bd | apply ba | apply be)) hb2')
        | (go_at_call 100; (with_reducible refine (filledS_any (.slice ca cl.length cc) (.slice xa2 a.2.length xc2) cl a.2 _ (qc.keep (by repeat (first | exact Below.refl _ _ | with_reducible assumption | exact below_alloc _ _ | (refine Below.setCell ?_ (by first | (simp; done) | (simp; omega) | omega) _) | apply bd | apply ba | apply be))) HC9.out (q2.keep (by repeat (first | exact Below.refl _ _ | with_reducible assumption | exact below_alloc _ _ | (refine Below.setCell ?_ (by first | (simp; done) | (simp; omega) | omega) _) | apply bd | apply ba | apply be))) FA.out.1.1.2 HL2.out.1.1).mono ?_); rintro e w5 ⟨vL, rfl, hL, hb5'⟩; have hLr := hL.rl; obtain ⟨la, lc, rfl⟩ := hLr.form; have hb5 : Below w0.heap.size w0 w5 := bt (bt hb2 (by repeat (first | exact Below.refl _ _ | with_reducible assumption | exact below_alloc _ _ | (refine Below.setCell ?_ (by first | (simp; done) | (simp; omega) | omega) _) | apply bd | apply ba | apply be))) hb5')
        | (go_at_call 100; (with_reducible refine (filledS_any (.slice ca cl.length cc) (.slice ya2 b.2.length yc2) cl b.2 _ (qc.keep (by repeat (first | exact Below.refl _ _ | with_reducible assumption | exact below_alloc _ _ | (refine Below.setCell ?_ (by first | (simp; done) | (simp; omega) | omega) _) | apply bd | apply ba | apply be))) HC9.out (q4.keep (by repeat (first | exact Below.refl _ _ | with_reducible assumption | exact below_alloc _ _ | (refine Below.setCell ?_ (by first | (simp; done) | (simp; omega) | omega) _) | apply bd | apply ba | apply be))) FA.out.2.1.2 HL2.out.1.2).mono ?_); rintro e w6 ⟨vR, rfl, hR, hb6'⟩; have hRr := hR.rl; obtain ⟨ra, rc, rfl⟩ := hRr.form; have hb56 : Below w5.heap.size w5 w6 := bt (by repeat (first | exact Below.refl _ _ | with_reducible assumption | exact below_alloc _ _ | (refine Below.setCell ?_ (by first | (simp; done) | (simp; omega) | omega) _) | apply bd | apply ba | apply be)) hb6'; have hb6 : Below w0.heap.size w0 w6 := bt hb5 hb56)
        | (go_at_call 212; (with_reducible refine (cb (l6Match_any (.slice la (filledL cl a.2).length lc) (.slice ra (filledL cl b.2).length rc) (filledL cl a.2) (filledL cl b.2) _ ((hLr.keep hb56).keep (by repeat (first | exact Below.refl _ _ | with_reducible assumption | exact below_alloc _ _ | (refine Below.setCell ?_ (by first | (simp; done) | (simp; omega) | omega) _) | apply bd | apply ba | apply be))) (hRr.keep (by repeat (first | exact Below.refl _ _ | with_reducible assumption | exact below_alloc _ _ | (refine Below.setCell ?_ (by first | (simp; done) | (simp; omega) | omega) _) | apply bd | apply ba | apply be))) HL2.out.2 HKD.out) HQ.out).mono ?_); rintro e w7 ⟨rfl, hb7'⟩; have hb7 : Below w0.heap.size w0 w7 := bt (bt hb6 (by repeat (first | exact Below.refl _ _ | with_reducible assumption | exact below_alloc _ _ | (refine Below.setCell ?_ (by first | (simp; done) | (simp; omega) | omega) _) | apply bd | apply ba | apply be))) hb7'))
    go_wp2
    go_returns
    exact ⟨rfl, bt hW hb7⟩
/-- `append([]int{}, list...)` in a plain region. -/
theorem app_copy0 {w : World} {ops : Array Oper} {rest : List Oper} {o : Oper} {a : Act} {Q : Exit → Act → World → Prop} (hgd : o.guard = none) (s x : Operand)
    (ho : o.op = .call { callee := .builtin .append, args := #[s, x], argTypes := #[46, 46] }) (hs : a.eval s = .slice (some ⟨w.heap.size, 0, none⟩) 0 0) {v : Value} {l : List Int} (hx : a.eval x = v)
    (hr : RInts w v l) (hl : l.length ≤ 1048576) (hp : 0 < l.length)
    (h : ∀ g cap w', w'.ownsRow w.heap.size 3 1 (.slice (some ⟨g, 0, none⟩) l.length cap) l.length (ints l) → Below w.heap.size w w' → wpList Try.prog ops Q rest (a.put o.dst (.slice (some ⟨g, 0, none⟩) l.length cap)) w') :
    wpList Try.prog ops Q (o :: rest) a (w.alloc (.cells #[] 3)) := by
  obtain ⟨b, oo, c, rfl, _, _, _⟩ := hr.ne hp
  obtain ⟨i0, hi, hz0, hz1, hz2⟩ := info_parts info_int
  have hown : (w.alloc (.cells #[] 3)).ownsRow w.heap.size 3 1 (.slice (some ⟨w.heap.size, 0, none⟩) 0 0) 0 (ints []) := World.ownsRow_lit (size := 1) w #[] 0 (Nat.le_refl _) (by unfold maxLen; omega) rfl
  refine wpList_append_lies _ hgd s x 46 ho w.heap.size 3 i0 (.int .i64 0) 1 8 Try.underlying46 hi hz0 hz1 hz2 rfl (by decide) _ 0 (ints []) hs hown ⟨b, oo, none⟩ l.length c (ints l) hx (by simp [ints]) (hr.alloc _).news ?_ hp (by unfold maxLen; omega) (by omega) (by simp) _ rfl ?_
  · intro u hu
    simp [ints] at hu
    obtain ⟨_, _, rfl⟩ := hu
    rfl
  · intro g cap w' hown' hgrow _ _
    rw [Nat.zero_add] at hown' ⊢
    have e0' : ints [] ++ ints l = ints l := by simp [ints]
    rw [e0'] at hown'
    refine h g cap w' hown' (((Below.fr (below_alloc w (.cells #[] 3))).then (grown_fr hgrow) fun i hi e => ?_).below (Nat.le_refl _) fun _ _ h => h)
    simp [Value.ownBlock] at e
    omega
end Go.Proofs.Ytobbilbkjiemiaa

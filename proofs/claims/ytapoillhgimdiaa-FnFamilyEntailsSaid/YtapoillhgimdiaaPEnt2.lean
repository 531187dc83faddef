/- Walks: entailment of families: the program, the reference. -/
import Derived.Test.YtapoillhgimdiaaPEnt1
import Derived.Test.YtapoillhgimdiaaPAny
namespace Go.Proofs.Ytapoillhgimdiaa
open Go.RowKit

def famOne (b : List Asn) (x : Asn) : Bool := !consB x || b.any (entB x)
/-- Each consistent assertion of a family entails one of another one. -/
def famEntB (a b : List Asn) : Bool := famB a && (famB b && a.all (famOne b))
theorem one_skip {b : List Asn} {x : Asn} (h : consB x = false) : famOne b x = true := by rw [famOne, h]; rfl
theorem one_test {b : List Asn} {x : Asn} (h : consB x = true) : famOne b x = b.any (entB x) := by rw [famOne, h]; rfl
set_option maxRecDepth 100000 in
set_option maxHeartbeats 3200000 in
theorem entailsOne_any {S1 S2 S : Nat → Prop} (v1 v2 v : Value) (x : Asn) (l : List Asn) (w : World) (h1 : RL w S1 v1 x.1) (h2 : RL w S2 v2 x.2) (h : RL w S v l) :
    Calls Try.prog 129 #[.agg #[v1, v2], v] w fun e w' => e = .returned (.bool (l.any (entB x))) ∧ Below w.heap.size w w' := by
  obtain ⟨xa1, xc1, rfl⟩ := h1.form
  obtain ⟨xa2, xc2, rfl⟩ := h2.form
  have hm := h.len
  unfold maxLen at hm
  have hR := Lib.hid h
  obtain ⟨a, c, rfl, _, _, hf⟩ := h.asnAt
  have F1 := Lib.hid hf
  clear hf h
  have c0 : (w.alloc (.cells #[.slice xa1 x.1.length xc1, .slice xa2 x.2.length xc2] 33)).cell? ⟨w.heap.size, 0, none⟩ = some (.slice xa1 x.1.length xc1) := by simp [go_sem]
  have c1 : (w.alloc (.cells #[.slice xa1 x.1.length xc1, .slice xa2 x.2.length xc2] 33)).cell? ⟨w.heap.size, 1, none⟩ = some (.slice xa2 x.2.length xc2) := by simp [go_sem]
  have hW : Below w.heap.size w (w.alloc (.cells #[.slice xa1 x.1.length xc1, .slice xa2 x.2.length xc2] 33)) := Bl
  have HX := Lib.hid (And.intro (And.intro c0 c1) hW)
  clear c0 c1 hW
  go_enter Try.func129, Try.ntmps129
  go_wp2
  generalize (w.alloc (.cells #[.slice xa1 x.1.length xc1, .slice xa2 x.2.length xc2] 33)) = w0 at HX ⊢
  go_loopg [9] l.length (fun q i wr => ∃ k : Nat, k + q = l.length ∧ i = .int .i64 k ∧ (l.take k).any (entB x) = false ∧ (wr.cell? ⟨w.heap.size, 0, none⟩ = some (.slice xa1 x.1.length xc1) ∧ wr.cell? ⟨w.heap.size, 1, none⟩ = some (.slice xa2 x.2.length xc2)) ∧ Below w.heap.size w wr)
  case atStart => exact ⟨0, by omega, rfl, by simp, HX.out⟩
  case round =>
    obtain ⟨k, hk, rfl, ht, ⟨c0, c1⟩, hW⟩ := hrel
    have HK := Lib.hid hk
    have HT := Lib.hid ht
    clear hk ht
    have hzs : w.heap.size < wr.heap.size := World.block_lt_of_cell? wr _ c0
    by_cases hk8 : k < l.length
    · obtain ⟨b1, o1, u1, u2, rfl, _, hbl1, hp1, hp2, r1, r2⟩ := F1.out k hk8
      obtain ⟨ua1, uc1, rfl⟩ := r1.form
      obtain ⟨ua2, uc2, rfl⟩ := r2.form
      replace hp1 := cell_keep hW hp1; replace hp2 := cell_keep hW hp2
      have hs0 := hW.size
      have i1 : (k : Int) < (l.length : Int) := by omega
      have hzb : b1 < wr.heap.size := by omega
      obtain ⟨t, hp⟩ : ∃ t, entB x (gd l k) = t := ⟨_, rfl⟩
      have HP := Lib.hid hp
      have HF := Lib.hid (show t = true → l.any (entB x) = true by rintro rfl; exact any_yes hk8 hp)
      clear hp
      go_wp2_with fail
      refine (cb (entailsI_any _ _ _ _ x (gd l k) _ (h1.keep (bt hW Bl)) (h2.keep (bt hW Bl)) (r1.keep (bt hW Bl)) (r2.keep (bt hW Bl))) HP.out).mono ?_
      rintro e w5 ⟨rfl, hb5⟩
      replace hb5 : Below wr.heap.size wr w5 := bt Bl hb5
      replace c0 := cell_keep hb5 c0; replace c1 := cell_keep hb5 c1; replace hW := bt hW hb5; clear hb5
      cases t with
      | false =>
        go_wp2
        go_roundg (gk - 1)
        case rel => exact ⟨k + 1, by have := HK.out; omega, by go_num, any_take_no hk8 HT.out HP.out, ⟨c0, c1⟩, hW⟩
        case measure => have := HK.out; omega
      | true =>
        go_wp2
        go_returns
        exact ⟨by rw [HF.out (by simp)]; rfl, hW⟩
    · obtain rfl : k = l.length := by have := HK.out; omega
      have HE := Lib.hid (any_end HT.out)
      clear HT
      go_wp2
      go_returns
      exact ⟨by rw [HE.out]; rfl, hW⟩
set_option maxRecDepth 100000 in
set_option maxHeartbeats 3200000 in
theorem l13Some_any {S1 S2 S : Nat → Prop} (v1 v2 v : Value) (x : Asn) (l : List Asn) (w : World) (h1 : RL w S1 v1 x.1) (h2 : RL w S2 v2 x.2) (h : RL w S v l) :
    Calls Try.prog 132 #[.agg #[v1, v2], v] w fun e w' => e = .returned (.bool (l.any (entB x))) ∧ Below w.heap.size w w' := by
  obtain ⟨xa1, xc1, rfl⟩ := h1.form
  obtain ⟨xa2, xc2, rfl⟩ := h2.form
  have hm := h.len
  unfold maxLen at hm
  have hR := Lib.hid h
  obtain ⟨a, c, rfl, _, _, hf⟩ := h.asnAt
  have F1 := Lib.hid hf
  clear hf h
  have c0 : (w.alloc (.cells #[.slice xa1 x.1.length xc1, .slice xa2 x.2.length xc2] 33)).cell? ⟨w.heap.size, 0, none⟩ = some (.slice xa1 x.1.length xc1) := by simp [go_sem]
  have c1 : (w.alloc (.cells #[.slice xa1 x.1.length xc1, .slice xa2 x.2.length xc2] 33)).cell? ⟨w.heap.size, 1, none⟩ = some (.slice xa2 x.2.length xc2) := by simp [go_sem]
  have hW : Below w.heap.size w (w.alloc (.cells #[.slice xa1 x.1.length xc1, .slice xa2 x.2.length xc2] 33)) := Bl
  have HX := Lib.hid (And.intro (And.intro c0 c1) hW)
  clear c0 c1 hW
  go_enter Try.func132, Try.ntmps132
  go_wp2
  generalize (w.alloc (.cells #[.slice xa1 x.1.length xc1, .slice xa2 x.2.length xc2] 33)) = w0 at HX ⊢
  go_loopg [5] l.length (fun q i wr => ∃ k : Nat, k + q = l.length ∧ i = .int .i64 k ∧ (l.take k).any (entB x) = false ∧ (wr.cell? ⟨w.heap.size, 0, none⟩ = some (.slice xa1 x.1.length xc1) ∧ wr.cell? ⟨w.heap.size, 1, none⟩ = some (.slice xa2 x.2.length xc2)) ∧ Below w.heap.size w wr)
  case atStart => exact ⟨0, by omega, rfl, by simp, HX.out⟩
  case round =>
    obtain ⟨k, hk, rfl, ht, ⟨c0, c1⟩, hW⟩ := hrel
    have HK := Lib.hid hk
    have HT := Lib.hid ht
    clear hk ht
    have hzs : w.heap.size < wr.heap.size := World.block_lt_of_cell? wr _ c0
    by_cases hk8 : k < l.length
    · obtain ⟨b1, o1, u1, u2, rfl, _, hbl1, hp1, hp2, r1, r2⟩ := F1.out k hk8
      obtain ⟨ua1, uc1, rfl⟩ := r1.form
      obtain ⟨ua2, uc2, rfl⟩ := r2.form
      replace hp1 := cell_keep hW hp1; replace hp2 := cell_keep hW hp2
      have hs0 := hW.size
      have i1 : (k : Int) < (l.length : Int) := by omega
      have hzb : b1 < wr.heap.size := by omega
      obtain ⟨t, hp⟩ : ∃ t, entB x (gd l k) = t := ⟨_, rfl⟩
      have HP := Lib.hid hp
      have HF := Lib.hid (show t = true → l.any (entB x) = true by rintro rfl; exact any_yes hk8 hp)
      clear hp
      have q1 := h1.keep hW
      have q2 := h2.keep hW
      have q3 := r1.keep hW
      have q4 := r2.keep hW
      go_wp2
      refine wp_region_ext (by kernel_rfl) (by kernel_rfl) ?_
      repeat (go_big_quiet_step ((go_at_call 86; with_reducible exact ext_c (cb (entailsS_any _ _ _ _ x (gd l k) _ (q1.keep (ext_below _ _)) (q2.keep (ext_below _ _)) (q3.keep (ext_below _ _)) (q4.keep (ext_below _ _))) HP.out))))
      refine wpQuiet_nil ?_
      intro w5 hb5
      replace c0 := cell_keep hb5 c0; replace c1 := cell_keep hb5 c1; replace hW := bt hW hb5; clear hb5
      cases t with
      | false =>
        go_wp2
        go_roundg (gk - 1)
        case rel => exact ⟨k + 1, by have := HK.out; omega, by go_num, any_take_no hk8 HT.out HP.out, ⟨c0, c1⟩, hW⟩
        case measure => have := HK.out; omega
      | true =>
        go_wp2
        go_returns
        exact ⟨by rw [HF.out (by simp)]; rfl, hW⟩
    · obtain rfl : k = l.length := by have := HK.out; omega
      have HE := Lib.hid (any_end HT.out)
      clear HT
      go_wp2
      go_returns
      exact ⟨by rw [HE.out]; rfl, hW⟩
set_option maxRecDepth 100000 in
set_option maxHeartbeats 3200000 in
theorem famEntI_any {S1 S2 : Nat → Prop} (v u : Value) (l l2 : List Asn) (w : World) (h : RL w S1 v l) (h2 : RL w S2 u l2) :
    Calls Try.prog 47 #[v, u] w fun e w' => e = .returned (.bool (famEntB l l2)) ∧ Below w.heap.size w w' := by
  obtain ⟨ua, uc, rfl⟩ := h2.form
  have hm := h.len
  unfold maxLen at hm
  have hR := Lib.hid h
  obtain ⟨a, c, rfl, _, _, hf⟩ := h.asnAt
  have F1 := Lib.hid hf
  clear hf h
  cases hf1 : famB l
  · have HR := Lib.hid (show famEntB l l2 = false by simp [famEntB, hf1])
    have HV := Lib.hid hf1
    clear hf1
    go_enter Try.func47, Try.ntmps47
    go_wp2_with fail
    refine (cb (famValidI_any _ l _ hR.out) HV.out).mono ?_
    rintro e w1 ⟨rfl, hb1⟩
    go_wp2
    go_ret
    exact ⟨by rw [HR.out]; rfl, hb1⟩
  cases hf2 : famB l2
  · have HR := Lib.hid (show famEntB l l2 = false by simp [famEntB, hf1, hf2])
    have HV := Lib.hid (And.intro hf1 hf2)
    clear hf1 hf2
    go_enter Try.func47, Try.ntmps47
    go_wp2_with fail
    refine (cb (famValidI_any _ l _ hR.out) HV.out.1).mono ?_
    rintro e w1 ⟨rfl, hb1⟩
    go_wp2_with fail
    refine (cb (famValidI_any _ l2 _ (h2.keep hb1)) HV.out.2).mono ?_
    rintro e w2 ⟨rfl, hb2⟩
    go_wp2
    go_ret
    exact ⟨by rw [HR.out]; rfl, bt hb1 hb2⟩
  have HR := Lib.hid (show famEntB l l2 = l.all (famOne l2) by simp [famEntB, hf1, hf2])
  have HV := Lib.hid (And.intro hf1 hf2)
  clear hf1 hf2
  go_enter Try.func47, Try.ntmps47
  go_wp2_with fail
  refine (cb (famValidI_any _ l _ hR.out) HV.out.1).mono ?_
  rintro e w1 ⟨rfl, hb1⟩
  go_wp2_with fail
  refine (cb (famValidI_any _ l2 _ (h2.keep hb1)) HV.out.2).mono ?_
  rintro e w2 ⟨rfl, hb2⟩
  have HW := Lib.hid (bt hb1 hb2)
  clear hb1 hb2
  go_wp2
  go_loopg [17] l.length (fun q i wr => ∃ k : Nat, k + q = l.length ∧ i = .int .i64 k ∧ (l.take k).all (famOne l2) = true ∧ Below w.heap.size w wr)
  case atStart => exact ⟨0, by omega, rfl, by simp, HW.out⟩
  case round =>
    obtain ⟨k, hk, rfl, ht, hW⟩ := hrel
    have HK := Lib.hid hk
    have HT := Lib.hid ht
    clear hk ht
    by_cases hk8 : k < l.length
    · obtain ⟨b1, o1, u1, u2, rfl, _, hbl1, hp1, hp2, r1, r2⟩ := F1.out k hk8
      obtain ⟨ua1, uc1, rfl⟩ := r1.form
      obtain ⟨ua2, uc2, rfl⟩ := r2.form
      replace hp1 := cell_keep hW hp1; replace hp2 := cell_keep hW hp2
      have hs0 := hW.size
      have i1 : (k : Int) < (l.length : Int) := by omega
      have hzb : b1 < wr.heap.size := by omega
      obtain ⟨t, hp⟩ : ∃ t, consB (gd l k) = t := ⟨_, rfl⟩
      have HP := Lib.hid hp
      clear hp
      go_wp2_with fail
      refine (cb (consistentI_any _ _ (gd l k) _ (r1.keep (bt hW Bl)) (r2.keep (bt hW Bl))) HP.out).mono ?_
      rintro e w5 ⟨rfl, hb5⟩
      have bx0 := cell_keep hb5 (p := ⟨wr.heap.size, 0, none⟩) (v := .slice ua1 (gd l k).1.length uc1) (by simp [go_sem])
      have bx1 := cell_keep hb5 (p := ⟨wr.heap.size, 1, none⟩) (v := .slice ua2 (gd l k).2.length uc2) (by simp [go_sem])
      replace hb5 : Below wr.heap.size wr w5 := bt Bl hb5
      replace hW := bt hW hb5; clear hb5
      cases t with
      | false =>
        have HN := Lib.hid (all_yes hk8 HT.out (one_skip HP.out))
        go_wp2
        go_roundg (gk - 1)
        case rel => exact ⟨k + 1, by have := HK.out; omega, by go_num, HN.out, hW⟩
        case measure => have := HK.out; omega
      | true =>
        obtain ⟨s, hs⟩ : ∃ s, l2.any (entB (gd l k)) = s := ⟨_, rfl⟩
        have HS := Lib.hid hs
        clear hs
        go_wp2_with fail
        refine (cb (entailsOne_any _ _ _ (gd l k) l2 _ (r1.keep hW) (r2.keep hW) (h2.keep hW)) HS.out).mono ?_
        rintro e w6 ⟨rfl, hb6⟩
        replace hW := bt hW hb6
        clear hb6
        cases s with
        | true =>
          have HN := Lib.hid (all_yes hk8 HT.out ((one_test HP.out).trans HS.out))
          go_wp2
          go_roundg (gk - 1)
          case rel => exact ⟨k + 1, by have := HK.out; omega, by go_num, HN.out, hW⟩
          case measure => have := HK.out; omega
        | false =>
          have HN := Lib.hid (all_no hk8 ((one_test HP.out).trans HS.out))
          go_wp2
          go_returns
          exact ⟨by rw [HR.out, HN.out]; rfl, hW⟩
    · obtain rfl : k = l.length := by have := HK.out; omega
      have HE := Lib.hid (all_end HT.out)
      clear HT
      go_wp2
      go_returns
      exact ⟨by rw [HR.out, HE.out]; rfl, hW⟩
set_option maxRecDepth 100000 in
set_option maxHeartbeats 3200000 in
theorem famEntS_any {S1 S2 : Nat → Prop} (v u : Value) (l l2 : List Asn) (w : World) (h : RL w S1 v l) (h2 : RL w S2 u l2) :
    Calls Try.prog 48 #[v, u] w fun e w' => e = .returned (.bool (famEntB l l2)) ∧ Below w.heap.size w w' := by
  obtain ⟨ua, uc, rfl⟩ := h2.form
  have hm := h.len
  unfold maxLen at hm
  have hR := Lib.hid h
  obtain ⟨a, c, rfl, _, _, hf⟩ := h.asnAt
  have F1 := Lib.hid hf
  clear hf h
  cases hf1 : famB l
  · have HR := Lib.hid (show famEntB l l2 = false by simp [famEntB, hf1])
    have HV := Lib.hid hf1
    clear hf1
    go_enter Try.func48, Try.ntmps48
    go_wp2_with fail
    refine (cb (famValidS_any _ l _ hR.out) HV.out).mono ?_
    rintro e w1 ⟨rfl, hb1⟩
    go_wp2
    go_ret
    exact ⟨by rw [HR.out]; rfl, hb1⟩
  cases hf2 : famB l2
  · have HR := Lib.hid (show famEntB l l2 = false by simp [famEntB, hf1, hf2])
    have HV := Lib.hid (And.intro hf1 hf2)
    clear hf1 hf2
    go_enter Try.func48, Try.ntmps48
    go_wp2_with fail
    refine (cb (famValidS_any _ l _ hR.out) HV.out.1).mono ?_
    rintro e w1 ⟨rfl, hb1⟩
    go_wp2_with fail
    refine (cb (famValidS_any _ l2 _ (h2.keep hb1)) HV.out.2).mono ?_
    rintro e w2 ⟨rfl, hb2⟩
    go_wp2
    go_ret
    exact ⟨by rw [HR.out]; rfl, bt hb1 hb2⟩
  have HR := Lib.hid (show famEntB l l2 = l.all (famOne l2) by simp [famEntB, hf1, hf2])
  have HV := Lib.hid (And.intro hf1 hf2)
  clear hf1 hf2
  go_enter Try.func48, Try.ntmps48
  go_wp2_with fail
  refine (cb (famValidS_any _ l _ hR.out) HV.out.1).mono ?_
  rintro e w1 ⟨rfl, hb1⟩
  go_wp2_with fail
  refine (cb (famValidS_any _ l2 _ (h2.keep hb1)) HV.out.2).mono ?_
  rintro e w2 ⟨rfl, hb2⟩
  have HW := Lib.hid (bt hb1 hb2)
  clear hb1 hb2
  go_wp2
  go_loopg [5] l.length (fun q i wr => ∃ k : Nat, k + q = l.length ∧ i = .int .i64 k ∧ (l.take k).all (famOne l2) = true ∧ Below w.heap.size w wr)
  case atStart => exact ⟨0, by omega, rfl, by simp, HW.out⟩
  case round =>
    obtain ⟨k, hk, rfl, ht, hW⟩ := hrel
    have HK := Lib.hid hk
    have HT := Lib.hid ht
    clear hk ht
    by_cases hk8 : k < l.length
    · obtain ⟨b1, o1, u1, u2, rfl, _, hbl1, hp1, hp2, r1, r2⟩ := F1.out k hk8
      obtain ⟨ua1, uc1, rfl⟩ := r1.form
      obtain ⟨ua2, uc2, rfl⟩ := r2.form
      replace hp1 := cell_keep hW hp1; replace hp2 := cell_keep hW hp2
      have hs0 := hW.size
      have i1 : (k : Int) < (l.length : Int) := by omega
      have hzb : b1 < wr.heap.size := by omega
      obtain ⟨t, hp⟩ : ∃ t, consB (gd l k) = t := ⟨_, rfl⟩
      have HP := Lib.hid hp
      clear hp
      go_wp2_with fail
      refine (cb (consistentS_any _ _ (gd l k) _ (r1.keep (bt hW Bl)) (r2.keep (bt hW Bl))) HP.out).mono ?_
      rintro e w5 ⟨rfl, hb5⟩
      replace hp1 := cell_keep hb5 hp1; replace hp2 := cell_keep hb5 hp2; replace hW := bt hW hb5; clear hb5
      have hzb5 : b1 < w5.heap.size := World.block_lt_of_cell? w5 _ hp1
      cases t with
      | false =>
        have HN := Lib.hid (all_yes hk8 HT.out (one_skip HP.out))
        go_wp2
        go_roundg (gk - 1)
        case rel => exact ⟨k + 1, by have := HK.out; omega, by go_num, HN.out, hW⟩
        case measure => have := HK.out; omega
      | true =>
        obtain ⟨s, hs⟩ : ∃ s, l2.any (entB (gd l k)) = s := ⟨_, rfl⟩
        have HS := Lib.hid hs
        clear hs
        go_wp2_with fail
        refine (cb (l13Some_any _ _ _ (gd l k) l2 _ (r1.keep hW) (r2.keep hW) (h2.keep hW)) HS.out).mono ?_
        rintro e w6 ⟨rfl, hb6⟩
        replace hW := bt hW hb6
        clear hb6
        cases s with
        | true =>
          have HN := Lib.hid (all_yes hk8 HT.out ((one_test HP.out).trans HS.out))
          go_wp2
          go_roundg (gk - 1)
          case rel => exact ⟨k + 1, by have := HK.out; omega, by go_num, HN.out, hW⟩
          case measure => have := HK.out; omega
        | false =>
          have HN := Lib.hid (all_no hk8 ((one_test HP.out).trans HS.out))
          go_wp2
          go_returns
          exact ⟨by rw [HR.out, HN.out]; rfl, hW⟩
    · obtain rfl : k = l.length := by have := HK.out; omega
      have HE := Lib.hid (all_end HT.out)
      clear HT
      go_wp2
      go_returns
      exact ⟨by rw [HR.out, HE.out]; rfl, hW⟩
end Go.Proofs.Ytapoillhgimdiaa

/- Walks: the reference's used cells; its search by pairs. -/
import Derived.Test.YtnhhfbhhglhocaaSh3
import Derived.Test.YtnhhfbhhglhocaaShape4
namespace Go.Proofs.Ytnhhfbhhglhocaa
open Go.RowKit

theorem state_form {w : World} {v : Value} {l : List Int} (h : RInts w v l) (hl : l.length = 8) : ∃ b o c, v = .slice (some ⟨b, o, none⟩) 8 c := by
  obtain ⟨b, o, cap, rfl, _⟩ := h.ne (by omega)
  exact ⟨b, o, cap, by rw [hl]⟩
set_option maxHeartbeats 1600000 in
theorem specUsed_any (vs hv : Value) (vl hl : List Int) (w : World) (h1 : RInts w vs vl) (h2 : RInts w hv hl) (hv1 : validB vl hl = true) :
    Calls Try.prog 124 #[.agg #[vs, hv]] w fun e w' => ∃ v, e = .returned v ∧ w'.ownsRow w.heap.size 3 1 v (usedA' hl).length (ints (usedA' hl)) ∧ Below w.heap.size w w' := by
  have hh8 := (valid_len hv1).2
  have HV := Lib.hid (And.intro hv1 hh8)
  clear hv1 hh8
  go_enter Try.func124, Try.ntmps124
  go_wp2_with fail
  have q1 : RInts (w.alloc (.cells #[vs, hv] 34)) vs vl := h1.alloc _
  have q2 : RInts (w.alloc (.cells #[vs, hv] 34)) hv hl := h2.alloc _
  have hb01 : Below w.heap.size w (w.alloc (.cells #[vs, hv] 34)) := below_alloc _ _
  have hc0 : (w.alloc (.cells #[vs, hv] 34)).cell? ⟨w.heap.size, 0, none⟩ = some vs := by simp
  have hc1 : (w.alloc (.cells #[vs, hv] 34)).cell? ⟨w.heap.size, 1, none⟩ = some hv := by simp
  obtain ⟨w1, hw1⟩ : ∃ w1, w1 = w.alloc (.cells #[vs, hv] 34) := ⟨_, rfl⟩
  have hsz : w.heap.size < w1.heap.size := by rw [hw1]; simp
  have hsz1 : w1.heap.size = w.heap.size + 1 := by rw [hw1]; simp
  rw [← hw1] at q1 q2 hb01 hc0 hc1
  try rw [← hw1]
  clear hw1 h1 h2
  go_loopg [3, 4] 8 (fun q v i wr => ∃ k : Nat, k + q = 8 ∧ i = .int .i64 ((k : Int) + 1) ∧ wr.ownsRow w1.heap.size 3 1 v (sel (fun n => alB hl (n : Int)) 1 k).length (ints (sel (fun n => alB hl (n : Int)) 1 k)) ∧ Below w1.heap.size w1 wr)
  case atStart => exact ⟨0, by omega, rfl, by rw [← hsz1]; exact own_empty _ _ _ (Nat.le_refl _), below_alloc _ _⟩
  case round =>
    obtain ⟨k, hk, rfl, hown, hb⟩ := hrel
    have HK := Lib.hid hk
    have HO := Lib.hid hown
    have hbs := hb.size
    have hc0r := cell_keep hb hc0
    have hc1r := cell_keep hb hc1
    clear hk hown
    by_cases hk8 : k < 8
    · have hki : (k : Int) + 1 ≤ 8 := by omega
      have hsl := sel_len (fun n => alB hl (n : Int)) 1 k
      have e2 : (((1 + k : Nat) : Int)) = (k : Int) + 1 := by omega
      cases hp : alB hl ((k : Int) + 1)
      · have hy := sel_no (p := fun n => alB hl (n : Int)) (a := 1) (k := k) (by show alB hl ((1 + k : Nat) : Int) = false; rw [e2]; exact hp)
        have HY := Lib.hid (And.intro hy hp)
        clear hy e2 hp
        go_wp2_with (first
          | (go_at_call 58; go_must (refine (specStateValid_any _ _ vl hl _ (q1.keep hb) (q2.keep hb)).mono ?_; rw [HV.out.1]; rintro e w2 ⟨rfl, hb2⟩; have hb02 := bt hb hb2; have hc02 := cell_keep hb02 hc0; have hc12 := cell_keep hb02 hc1))
          | (go_at_call 122; go_must (refine (l2Has_any _ _ hl _ _ (q2.keep hb02) (by rw [HV.out.2]; omega)).mono ?_; rw [HY.out.2]; rintro e w3 ⟨rfl, hb3⟩; have hb03 := bt hb02 hb3)))
        go_roundg (gk - 1)
        case rel => exact ⟨k + 1, by have := HK.out; omega, by go_num, by rw [HY.out.1]; exact own_keep (own_keep HO.out hb2) hb3, hb03⟩
        case measure => have := HK.out; omega
      · have hy := sel_yes (p := fun n => alB hl (n : Int)) (a := 1) (k := k) (by show alB hl ((1 + k : Nat) : Int) = true; rw [e2]; exact hp)
        rw [e2] at hy
        have HY := Lib.hid (And.intro hy hp)
        clear hy e2 hp
        go_wp2_with (first
          | (go_at_call 58; go_must (refine (specStateValid_any _ _ vl hl _ (q1.keep hb) (q2.keep hb)).mono ?_; rw [HV.out.1]; rintro e w2 ⟨rfl, hb2⟩; have hb02 := bt hb hb2; have hc02 := cell_keep hb02 hc0; have hc12 := cell_keep hb02 hc1))
          | (go_at_call 122; go_must (refine (l2Has_any _ _ hl _ _ (q2.keep hb02) (by rw [HV.out.2]; omega)).mono ?_; rw [HY.out.2]; rintro e w3 ⟨rfl, hb3⟩; have hb03 := bt hb02 hb3; have hbs3 := hb03.size))
          | (at_builtin; go_must (refine app_int _ rfl _ _ rfl w1.heap.size _ _ rfl (own_keep (own_keep (own_keep HO.out hb2) hb3) (below_alloc _ _)) ⟨w3.heap.size, 0, none⟩ _ rfl (cell_new1 _ _ _) (by omega) (by simp; omega) ?_; intro v' w4 hown4 hf4)))
        go_roundg (gk - 1)
        case rel => exact ⟨k + 1, by have := HK.out; omega, by go_num, by rw [HY.out.1]; exact hown4, below_own (own_keep (own_keep (own_keep HO.out hb2) hb3) (below_alloc _ _)) hf4 (ba hb03 _) (by simp; omega)⟩
        case measure => have := HK.out; omega
    · obtain rfl : k = 8 := by have := HK.out; omega
      go_wp2
      go_ret
      exact ⟨_, rfl, own_mono HO.out hb01.size, bt hb01 hb⟩

theorem beq_cast (a b : Nat) : ((a : Int) == (b : Int)) = decide (a = b) := by
  rw [Bool.eq_iff_iff]; simp
  try omega
theorem pairs_le {ps : Prs} (hi : PI ps) (hn : (ps.map (·.1)).Nodup) : ps.length ≤ 8 := by
  have := sub_len hn (b := addrs) (fun x hx => by
    obtain ⟨q, hq, rfl⟩ := List.mem_map.1 hx
    exact mem_addrs.2 (hi.adr q hq).1)
  rwa [addrs_len, List.length_map] at this
/-- The search, borne so many pairs more. -/
def MatchOK (vl hl vm hm : List Int) (f : Nat) : Prop := ∀ (s1 h1 s2 h2 : Value) (b o c : Nat) (ps : Prs) (n : Nat) (nI : Int) (w : World), RInts w s1 vl → RInts w h1 hl → RInts w s2 vm → RInts w h2 hm →
  9 ≤ ps.length + f → PI ps → (ps.map (·.1)).Nodup → 1 ≤ n → n ≤ 9 → nI = (n : Int) → RInts w (.slice (some ⟨b, o, none⟩) (2 * ps.length) c) (flatP ps) →
  Calls Try.prog 60 #[.agg #[s1, h1], .agg #[s2, h2], .slice (some ⟨b, o, none⟩) (2 * ps.length) c, .int .i64 nI] w fun e w' => e = .returned (.bool (matchF hl hm f ps n)) ∧ Below w.heap.size w w'
def guessP (hl hm : List Int) (f : Nat) (ps : Prs) (k m : Nat) : Bool := nextOk ps (k : Int) ((m : Int) + 1) && (alB hm ((m : Int) + 1) && matchF hl hm f (nextL ps (k : Int) ((m : Int) + 1)) (k + 1))

set_option maxRecDepth 100000 in
set_option maxHeartbeats 3200000 in
theorem guess_any (vl hl vm hm : List Int) (hv : validB vl hl = true) (hw : validB vm hm = true) (f : Nat) (hM : MatchOK vl hl vm hm f) (s1 h1 s2 h2 : Value) (b o c : Nat) (ps : Prs) (k : Nat) (w : World) (r1 : RInts w s1 vl) (r2 : RInts w h1 hl) (r3 : RInts w s2 vm) (r4 : RInts w h2 hm)
    (hf : 9 ≤ ps.length + 1 + f) (hi : PI ps) (hn : (ps.map (·.1)).Nodup) (hk1 : 1 ≤ k) (hk8 : k ≤ 8) (hkn : known ps (k : Int) = false) (hr : RInts w (.slice (some ⟨b, o, none⟩) (2 * ps.length) c) (flatP ps)) :
    Calls Try.prog 123 #[.agg #[s1, h1], .agg #[s2, h2], .slice (some ⟨b, o, none⟩) (2 * ps.length) c, .int .i64 k] w fun e w' => e = .returned (.bool ((List.range 8).any (guessP hl hm f ps k))) ∧ Below w.heap.size w w' := by
  have hp8 := pairs_le hi hn
  have HM := Lib.hid hM
  have HI := Lib.hid (And.intro hf (And.intro hi (And.intro hn hkn)))
  have HV := Lib.hid (And.intro hv (And.intro hw (And.intro (valid_len hv).2 (valid_len hw).2)))
  have HR := Lib.hid (And.intro (And.intro r1 r2) (And.intro (And.intro r3 r4) hr))
  clear hM hf hi hn hkn hv hw r1 r2 r3 r4 hr
  go_enter Try.func123, Try.ntmps123
  go_wp2_with fail
  have q0 : ((w.alloc (.cells #[s1, h1] 34)).alloc (.cells #[s2, h2] 34)).cell? ⟨w.heap.size, 0, none⟩ = some s1 := by simp
  have q1 : ((w.alloc (.cells #[s1, h1] 34)).alloc (.cells #[s2, h2] 34)).cell? ⟨w.heap.size, 1, none⟩ = some h1 := by simp
  have q2 : ((w.alloc (.cells #[s1, h1] 34)).alloc (.cells #[s2, h2] 34)).cell? ⟨w.heap.size + 1, 0, none⟩ = some s2 := by simp
  have q3 : ((w.alloc (.cells #[s1, h1] 34)).alloc (.cells #[s2, h2] 34)).cell? ⟨w.heap.size + 1, 1, none⟩ = some h2 := by simp
  have hW : Below w.heap.size w ((w.alloc (.cells #[s1, h1] 34)).alloc (.cells #[s2, h2] 34)) := ba (below_alloc _ _) _
  generalize ((w.alloc (.cells #[s1, h1] 34)).alloc (.cells #[s2, h2] 34)) = w1 at *
  go_loopg [9] 8 (fun q i wr => ∃ m : Nat, m + q = 8 ∧ i = .int .i64 ((m : Int) + 1) ∧ (List.range m).any (guessP hl hm f ps k) = false ∧ Below w1.heap.size w1 wr)
  case atStart => exact ⟨0, by omega, rfl, rfl, Below.refl _ _⟩
  case round =>
    obtain ⟨m, hm1, rfl, hany, hb⟩ := hrel
    have HK := Lib.hid hm1
    have HANY := Lib.hid hany
    have hc0 := cell_keep hb q0
    have hc1 := cell_keep hb q1
    have hd0 := cell_keep hb q2
    have hd1 := cell_keep hb q3
    clear hm1 hany
    by_cases hm8 : m < 8
    · have hmi : (m : Int) + 1 ≤ 8 := by omega
      cases e1 : nextOk ps (k : Int) ((m : Int) + 1)
      · have hP : (List.range (m + 1)).any (guessP hl hm f ps k) = false := by rw [any_range_succ, HANY.out, guessP]; simp [e1]
        have HPA := Lib.hid hP
        clear hP
        have HP := Lib.hid (And.intro True.intro (And.intro e1 (And.intro True.intro (And.intro True.intro (And.intro True.intro (And.intro True.intro True.intro))))))
        clear e1
        go_wp2_with (first
          | (go_at_call 59; go_must (refine (l15Next_any b o c ps _ _ _ (HR.out.2.2.keep (bt hW hb)) (by omega)).mono ?_; rw [HP.out.2.1]; rintro e w2 ⟨b5, o5, c5, rfl, hr5, hb2⟩; have hb02 := bt hb hb2; have HR5 := Lib.hid hr5; have hx0 := cell_keep hb2 hc0; have hx1 := cell_keep hb2 hc1; have hy0 := cell_keep hb2 hd0; have hy1 := cell_keep hb2 hd1; clear hr5)))
        go_roundg (gk - 1)
        case rel => exact ⟨m + 1, by have := HK.out; omega, by go_num, HPA.out, hb02⟩
        case measure => have := HK.out; omega
      · have hs := HI.out
        have hi2 := next_PI (ps := ps) hs.2.1 (x := (k : Int)) (y := (m : Int) + 1) (by omega) (by omega)
        have hnl := nextL_new e1 (show (1 : Int) ≤ (k : Int) by omega)
        have hn2 : ((nextL ps (k : Int) ((m : Int) + 1)).map (·.1)).Nodup := by rw [hnl]; exact firsts_snoc hs.2.2.1 hs.2.2.2
        have hf2 : 9 ≤ (nextL ps (k : Int) ((m : Int) + 1)).length + f := by rw [hnl]; simp; omega
        clear hs hnl
        cases e2 : alB hm ((m : Int) + 1)
        · have hP : (List.range (m + 1)).any (guessP hl hm f ps k) = false := by rw [any_range_succ, HANY.out, guessP]; simp [e1, e2]
          have HPA := Lib.hid hP
          clear hP
          have HP := Lib.hid (And.intro True.intro (And.intro e1 (And.intro e2 (And.intro True.intro (And.intro hf2 (And.intro hi2 hn2))))))
          clear e1 e2 hf2 hi2 hn2
          go_wp2_with (first
            | (go_at_call 59; go_must (refine (l15Next_any b o c ps _ _ _ (HR.out.2.2.keep (bt hW hb)) (by omega)).mono ?_; rw [HP.out.2.1]; rintro e w2 ⟨b5, o5, c5, rfl, hr5, hb2⟩; have hb02 := bt hb hb2; have HR5 := Lib.hid hr5; have hx0 := cell_keep hb2 hc0; have hx1 := cell_keep hb2 hc1; have hy0 := cell_keep hb2 hd0; have hy1 := cell_keep hb2 hd1; clear hr5))
            | (go_at_call 122; go_must (refine (l2Has_any _ _ hm _ _ (HR.out.2.1.2.keep (bt hW hb02)) (by rw [HV.out.2.2.2]; omega)).mono ?_; rw [HP.out.2.2.1]; rintro e w3 ⟨rfl, hb3⟩; have hb03 := bt hb02 hb3; have hx0 := cell_keep hb3 hx0; have hx1 := cell_keep hb3 hx1; have hy0 := cell_keep hb3 hy0; have hy1 := cell_keep hb3 hy1)))
          go_roundg (gk - 1)
          case rel => exact ⟨m + 1, by have := HK.out; omega, by go_num, HPA.out, hb03⟩
          case measure => have := HK.out; omega
        · cases e3 : matchF hl hm f (nextL ps (k : Int) ((m : Int) + 1)) (k + 1)
          · have hP : (List.range (m + 1)).any (guessP hl hm f ps k) = false := by rw [any_range_succ, HANY.out, guessP]; simp [e1, e2, e3]
            have HPA := Lib.hid hP
            clear hP
            have HP := Lib.hid (And.intro True.intro (And.intro e1 (And.intro e2 (And.intro e3 (And.intro hf2 (And.intro hi2 hn2))))))
            clear e1 e2 e3 hf2 hi2 hn2
            go_wp2_with (first
              | (go_at_call 59; go_must (refine (l15Next_any b o c ps _ _ _ (HR.out.2.2.keep (bt hW hb)) (by omega)).mono ?_; rw [HP.out.2.1]; rintro e w2 ⟨b5, o5, c5, rfl, hr5, hb2⟩; have hb02 := bt hb hb2; have HR5 := Lib.hid hr5; have hx0 := cell_keep hb2 hc0; have hx1 := cell_keep hb2 hc1; have hy0 := cell_keep hb2 hd0; have hy1 := cell_keep hb2 hd1; clear hr5))
              | (go_at_call 122; go_must (refine (l2Has_any _ _ hm _ _ (HR.out.2.1.2.keep (bt hW hb02)) (by rw [HV.out.2.2.2]; omega)).mono ?_; rw [HP.out.2.2.1]; rintro e w3 ⟨rfl, hb3⟩; have hb03 := bt hb02 hb3; have hx0 := cell_keep hb3 hx0; have hx1 := cell_keep hb3 hx1; have hy0 := cell_keep hb3 hy0; have hy1 := cell_keep hb3 hy1))
              | (go_at_call 60; go_must (refine (HM.out _ _ _ _ b5 o5 c5 (nextL ps (k : Int) ((m : Int) + 1)) (k + 1) _ _ (HR.out.1.1.keep (bt hW hb03)) (HR.out.1.2.keep (bt hW hb03)) (HR.out.2.1.1.keep (bt hW hb03)) (HR.out.2.1.2.keep (bt hW hb03)) HP.out.2.2.2.2.1 HP.out.2.2.2.2.2.1 HP.out.2.2.2.2.2.2 (by omega) (by omega) (by go_num) (HR5.out.keep hb3)).mono ?_; rw [HP.out.2.2.2.1]; rintro e w4 ⟨rfl, hb4⟩; have hb04 := bt hb03 hb4)))
            go_roundg (gk - 1)
            case rel => exact ⟨m + 1, by have := HK.out; omega, by go_num, HPA.out, hb04⟩
            case measure => have := HK.out; omega
          · have hP : (List.range 8).any (guessP hl hm f ps k) = true := any_range_true hm8 (by rw [guessP]; simp [e1, e2, e3])
            have HPA := Lib.hid hP
            clear hP
            have HP := Lib.hid (And.intro True.intro (And.intro e1 (And.intro e2 (And.intro e3 (And.intro hf2 (And.intro hi2 hn2))))))
            clear e1 e2 e3 hf2 hi2 hn2
            go_wp2_with (first
              | (go_at_call 59; go_must (refine (l15Next_any b o c ps _ _ _ (HR.out.2.2.keep (bt hW hb)) (by omega)).mono ?_; rw [HP.out.2.1]; rintro e w2 ⟨b5, o5, c5, rfl, hr5, hb2⟩; have hb02 := bt hb hb2; have HR5 := Lib.hid hr5; have hx0 := cell_keep hb2 hc0; have hx1 := cell_keep hb2 hc1; have hy0 := cell_keep hb2 hd0; have hy1 := cell_keep hb2 hd1; clear hr5))
              | (go_at_call 122; go_must (refine (l2Has_any _ _ hm _ _ (HR.out.2.1.2.keep (bt hW hb02)) (by rw [HV.out.2.2.2]; omega)).mono ?_; rw [HP.out.2.2.1]; rintro e w3 ⟨rfl, hb3⟩; have hb03 := bt hb02 hb3; have hx0 := cell_keep hb3 hx0; have hx1 := cell_keep hb3 hx1; have hy0 := cell_keep hb3 hy0; have hy1 := cell_keep hb3 hy1))
              | (go_at_call 60; go_must (refine (HM.out _ _ _ _ b5 o5 c5 (nextL ps (k : Int) ((m : Int) + 1)) (k + 1) _ _ (HR.out.1.1.keep (bt hW hb03)) (HR.out.1.2.keep (bt hW hb03)) (HR.out.2.1.1.keep (bt hW hb03)) (HR.out.2.1.2.keep (bt hW hb03)) HP.out.2.2.2.2.1 HP.out.2.2.2.2.2.1 HP.out.2.2.2.2.2.2 (by omega) (by omega) (by go_num) (HR5.out.keep hb3)).mono ?_; rw [HP.out.2.2.2.1]; rintro e w4 ⟨rfl, hb4⟩; have hb04 := bt hb03 hb4)))
            go_ret
            exact ⟨by first | (rw [HPA.out]; done) | (rw [HPA.out]; rfl), bt hW hb04⟩
    · obtain rfl : m = 8 := by have := HK.out; omega
      go_wp2
      go_ret
      exact ⟨by first | (rw [HANY.out]; done) | (rw [HANY.out]; rfl), bt hW hb⟩

theorem matchF_fail {hl hm : List Int} {f : Nat} {ps : Prs} {n : Nat} (h : scanP hl hm ps ps = some none) : matchF hl hm (f + 1) ps n = false := by rw [matchF, h]
theorem matchF_next {hl hm : List Int} {f : Nat} {ps qs : Prs} {n : Nat} (h : scanP hl hm ps ps = some (some qs)) : matchF hl hm (f + 1) ps n = matchF hl hm f qs n := by rw [matchF, h]
theorem matchF_open {hl hm : List Int} {f : Nat} {ps : Prs} {n k : Nat} (h : scanP hl hm ps ps = none) (ho : openP hl ps (9 - n) n = some k) : matchF hl hm (f + 1) ps n = (List.range 8).any (guessP hl hm f ps k) := by
  rw [matchF, h]; simp only [ho]; rfl
theorem matchF_end {hl hm : List Int} {f : Nat} {ps : Prs} {n : Nat} (h : scanP hl hm ps ps = none) (ho : openP hl ps (9 - n) n = none) : matchF hl hm (f + 1) ps n = decide ((usedA' hl).length = (usedA' hm).length) := by
  rw [matchF, h]; simp only [ho]
theorem openP_step {hl : List Int} {ps : Prs} {k : Nat} (hk : k < 9) : openP hl ps (9 - k) k = if alB hl (k : Int) = true ∧ known ps (k : Int) = false then some k else openP hl ps (9 - (k + 1)) (k + 1) := by
  obtain ⟨c, hc⟩ : ∃ c, 9 - k = c + 1 := ⟨8 - k, by omega⟩
  rw [hc, openP, show 9 - (k + 1) = c by omega]

set_option maxRecDepth 100000 in
set_option maxHeartbeats 6400000 in
theorem match_any (vl hl vm hm : List Int) (hv : validB vl hl = true) (hw : validB vm hm = true) (f : Nat) : MatchOK vl hl vm hm f := by
  induction f with
  | zero =>
    intro s1 h1 s2 h2 b o c ps n nI w r1 r2 r3 r4 hf hi hn
    have := pairs_le hi hn
    exfalso; omega
  | succ f ih =>
    intro s1 h1 s2 h2 b o c ps n nI w r1 r2 r3 r4 hf hi hn hn1 hn9 hnI hr
    subst hnI
    have hp8 := pairs_le hi hn
    obtain ⟨b1, o1, c1, rfl⟩ := state_form r2 (valid_len hv).2
    obtain ⟨b2, o2, c2, rfl⟩ := state_form r4 (valid_len hw).2
    have HM := Lib.hid ih
    have HI := Lib.hid (And.intro hf (And.intro hi hn))
    have HV := Lib.hid (And.intro hv (And.intro hw (And.intro (valid_len hv).2 (valid_len hw).2)))
    have HR := Lib.hid (And.intro (And.intro r1 r2) (And.intro (And.intro r3 r4) hr))
    clear ih hf hi hn hv hw r1 r2 r3 r4 hr
    go_enter Try.func60, Try.ntmps60
    go_wp2_with fail
    have q0 : ((w.alloc (.cells #[s1, .slice (some ⟨b1, o1, none⟩) 8 c1] 34)).alloc (.cells #[s2, .slice (some ⟨b2, o2, none⟩) 8 c2] 34)).cell? ⟨w.heap.size, 0, none⟩ = some s1 := by simp
    have q1 : ((w.alloc (.cells #[s1, .slice (some ⟨b1, o1, none⟩) 8 c1] 34)).alloc (.cells #[s2, .slice (some ⟨b2, o2, none⟩) 8 c2] 34)).cell? ⟨w.heap.size, 1, none⟩ = some (.slice (some ⟨b1, o1, none⟩) 8 c1) := by simp
    have q2 : ((w.alloc (.cells #[s1, .slice (some ⟨b1, o1, none⟩) 8 c1] 34)).alloc (.cells #[s2, .slice (some ⟨b2, o2, none⟩) 8 c2] 34)).cell? ⟨w.heap.size + 1, 0, none⟩ = some s2 := by simp
    have q3 : ((w.alloc (.cells #[s1, .slice (some ⟨b1, o1, none⟩) 8 c1] 34)).alloc (.cells #[s2, .slice (some ⟨b2, o2, none⟩) 8 c2] 34)).cell? ⟨w.heap.size + 1, 1, none⟩ = some (.slice (some ⟨b2, o2, none⟩) 8 c2) := by simp
    have hW : Below w.heap.size w ((w.alloc (.cells #[s1, .slice (some ⟨b1, o1, none⟩) 8 c1] 34)).alloc (.cells #[s2, .slice (some ⟨b2, o2, none⟩) 8 c2] 34)) := ba (below_alloc _ _) _
    generalize ((w.alloc (.cells #[s1, .slice (some ⟨b1, o1, none⟩) 8 c1] 34)).alloc (.cells #[s2, .slice (some ⟨b2, o2, none⟩) 8 c2] 34)) = w1 at *
    go_loopg [9] ps.length (fun q i wr => ∃ j p : Nat, p = 2 * j ∧ j + q = ps.length ∧ i = .int .i64 p ∧ scanP hl hm ps ps = scanP hl hm ps (ps.drop j) ∧ Below w1.heap.size w1 wr)
    case atStart => exact ⟨0, 0, rfl, by omega, rfl, rfl, Below.refl _ _⟩
    case round =>
      obtain ⟨j, p, hp, hj, rfl, hsc, hb⟩ := hrel
      have HK := Lib.hid (And.intro hj hp)
      have HSC := Lib.hid hsc
      have hc0 := cell_keep hb q0
      have hc1 := cell_keep hb q1
      have hd0 := cell_keep hb q2
      have hd1 := cell_keep hb q3
      clear hsc
      by_cases hjn : j < ps.length
      · have hpi' : (p : Int) < 2 * (ps.length : Int) := by omega
        have hpi1' : (p : Int) + 1 < 2 * (ps.length : Int) := by omega
        have hg2 := gi_flat ps j hjn
        rw [← hp] at hg2
        have hbW := bt hW hb
        have hca := ((HR.out.2.2.keep hbW).at p (by rw [flatP_len]; omega)).2
        have hcb := ((HR.out.2.2.keep hbW).at (p + 1) (by rw [flatP_len]; omega)).2
        rw [hg2.1] at hca
        rw [hg2.2] at hcb
        have hadr := HI.out.2.1.adr ps[j] (List.getElem_mem hjn)
        obtain ⟨k1, hk1⟩ : ∃ k1 : Nat, (ps[j]).1 = (k1 : Int) + 1 := ⟨((ps[j]).1 - 1).toNat, by omega⟩
        obtain ⟨k2, hk2⟩ : ∃ k2 : Nat, (ps[j]).2 = (k2 : Int) + 1 := ⟨((ps[j]).2 - 1).toNat, by omega⟩
        have hk18 : (k1 : Int) < 8 := by omega
        have hk28 : (k2 : Int) < 8 := by omega
        rw [hk1] at hca
        rw [hk2] at hcb
        obtain ⟨x, hx⟩ : ∃ x, x = gi hl k1 := ⟨_, rfl⟩
        obtain ⟨y, hy⟩ : ∃ y, y = gi hm k2 := ⟨_, rfl⟩
        have hcx := ((HR.out.1.2.keep hbW).at k1 (by rw [HV.out.2.2.1]; omega)).2
        have hcy := ((HR.out.2.1.2.keep hbW).at k2 (by rw [HV.out.2.2.2]; omega)).2
        rw [← hx] at hcx
        rw [← hy] at hcy
        have hctx : ct hl (ps[j]).1 = x := by rw [hk1, ct, if_pos (isAddrB_iff.2 (by omega)), hx]; congr 1; omega
        have hcty : ct hm (ps[j]).2 = y := by rw [hk2, ct, if_pos (isAddrB_iff.2 (by omega)), hy]; congr 1; omega
        have hvx := valid_ct HV.out.1 (ps[j]).1
        have hvy := valid_ct HV.out.2.1 (ps[j]).2
        rw [hctx] at hvx
        rw [hcty] at hvy
        have hdr : ps.drop j = ps[j] :: ps.drop (j + 1) := List.drop_eq_getElem_cons hjn
        have hstep : scanP hl hm ps ps = (if nextOk ps x y = false then some none else if known ps x = false ∧ 1 ≤ x then some (some (nextL ps x y)) else scanP hl hm ps (ps.drop (j + 1))) := by rw [HSC.out, hdr, scanP, hctx, hcty]
        have HST := Lib.hid (And.intro hstep (And.intro hvx hvy))
        have e1 : IntKind.i64.wrap ((p : Int) + 1) = (p : Int) + 1 := IntWalk.i64_in _ (by omega)
        have e4 : ((p : Int) + 1).toNat = p + 1 := by omega
        have e6 : (0 : Int) ≤ (p : Int) + 1 := by omega
        have e7 : IntKind.i64.wrap (k1 : Int) = (k1 : Int) := IntWalk.i64_in _ (by omega)
        have e8 : IntKind.i64.wrap (k2 : Int) = (k2 : Int) := IntWalk.i64_in _ (by omega)
        have hgb : b < wr.heap.size := World.block_lt_of_cell? wr _ hca
        have hgb1 : b1 < wr.heap.size := World.block_lt_of_cell? wr _ hcx
        have hgb2 : b2 < wr.heap.size := World.block_lt_of_cell? wr _ hcy
        clear hg2 hp hj hadr hk1 hk2 hx hy hctx hcty hvx hvy hdr hstep
        obtain ⟨g0, rfl⟩ : ∃ g0 : Nat, g0 = gk := ⟨_, rfl⟩
        cases hok : nextOk ps x y
        · have HOK := Lib.hid hok
          clear hok
          go_wp2_with fail
          go_region_held3 (fun w' => (w'.cell? ⟨w.heap.size, 1, none⟩ = some (.slice (some ⟨b1, o1, none⟩) 8 c1) ∧ w'.cell? ⟨w.heap.size + 1, 1, none⟩ = some (.slice (some ⟨b2, o2, none⟩) 8 c2)) ∧ (w'.cell? ⟨b, o + p, none⟩ = some (.int .i64 ((k1 : Int) + 1)) ∧ w'.cell? ⟨b, o + (p + 1), none⟩ = some (.int .i64 ((k2 : Int) + 1))) ∧ (w'.cell? ⟨b1, o1 + k1, none⟩ = some (.int .i64 x) ∧ w'.cell? ⟨b2, o2 + k2, none⟩ = some (.int .i64 y)))
            (exact ⟨⟨cell_keep (by repeat (first | exact Below.refl _ _ | with_reducible assumption | exact below_alloc _ _ | (refine Below.setCell ?_ (by first | (simp; done) | (simp; omega) | omega) _) | apply bd | apply ba | apply be)) hc1, cell_keep (by repeat (first | exact Below.refl _ _ | with_reducible assumption | exact below_alloc _ _ | (refine Below.setCell ?_ (by first | (simp; done) | (simp; omega) | omega) _) | apply bd | apply ba | apply be)) hd1⟩, ⟨cell_keep (by repeat (first | exact Below.refl _ _ | with_reducible assumption | exact below_alloc _ _ | (refine Below.setCell ?_ (by first | (simp; done) | (simp; omega) | omega) _) | apply bd | apply ba | apply be)) hca, cell_keep (by repeat (first | exact Below.refl _ _ | with_reducible assumption | exact below_alloc _ _ | (refine Below.setCell ?_ (by first | (simp; done) | (simp; omega) | omega) _) | apply bd | apply ba | apply be)) hcb⟩, ⟨cell_keep (by repeat (first | exact Below.refl _ _ | with_reducible assumption | exact below_alloc _ _ | (refine Below.setCell ?_ (by first | (simp; done) | (simp; omega) | omega) _) | apply bd | apply ba | apply be)) hcx, cell_keep (by repeat (first | exact Below.refl _ _ | with_reducible assumption | exact below_alloc _ _ | (refine Below.setCell ?_ (by first | (simp; done) | (simp; omega) | omega) _) | apply bd | apply ba | apply be)) hcy⟩⟩)
            ((go_at_call 59; go_must (refine (l15Next_any b o c ps _ _ _ (HR.out.2.2.keep (bt hbW (by repeat (first | exact Below.refl _ _ | with_reducible assumption | exact below_alloc _ _ | (refine Below.setCell ?_ (by first | (simp; done) | (simp; omega) | omega) _) | apply bd | apply ba | apply be)))) (by omega)).mono ?_; rw [HOK.out]; rintro e w5 ⟨b5, o5, c5, rfl, hr5, hb5'⟩; have hb5 : Below wr.heap.size wr w5 := bt (by repeat (first | exact Below.refl _ _ | with_reducible assumption | exact below_alloc _ _ | (refine Below.setCell ?_ (by first | (simp; done) | (simp; omega) | omega) _) | apply bd | apply ba | apply be)) hb5')))
          go_wp2
          go_ret
          exact ⟨by rw [matchF_fail (by rw [HST.out.1, if_pos HOK.out])]; rfl, bt hbW hb5⟩
        · have HOK := Lib.hid hok
          clear hok
          go_wp2_with fail
          go_region_held3 (fun w' => (w'.cell? ⟨w.heap.size, 1, none⟩ = some (.slice (some ⟨b1, o1, none⟩) 8 c1) ∧ w'.cell? ⟨w.heap.size + 1, 1, none⟩ = some (.slice (some ⟨b2, o2, none⟩) 8 c2)) ∧ (w'.cell? ⟨b, o + p, none⟩ = some (.int .i64 ((k1 : Int) + 1)) ∧ w'.cell? ⟨b, o + (p + 1), none⟩ = some (.int .i64 ((k2 : Int) + 1))) ∧ (w'.cell? ⟨b1, o1 + k1, none⟩ = some (.int .i64 x) ∧ w'.cell? ⟨b2, o2 + k2, none⟩ = some (.int .i64 y)))
            (exact ⟨⟨cell_keep (by repeat (first | exact Below.refl _ _ | with_reducible assumption | exact below_alloc _ _ | (refine Below.setCell ?_ (by first | (simp; done) | (simp; omega) | omega) _) | apply bd | apply ba | apply be)) hc1, cell_keep (by repeat (first | exact Below.refl _ _ | with_reducible assumption | exact below_alloc _ _ | (refine Below.setCell ?_ (by first | (simp; done) | (simp; omega) | omega) _) | apply bd | apply ba | apply be)) hd1⟩, ⟨cell_keep (by repeat (first | exact Below.refl _ _ | with_reducible assumption | exact below_alloc _ _ | (refine Below.setCell ?_ (by first | (simp; done) | (simp; omega) | omega) _) | apply bd | apply ba | apply be)) hca, cell_keep (by repeat (first | exact Below.refl _ _ | with_reducible assumption | exact below_alloc _ _ | (refine Below.setCell ?_ (by first | (simp; done) | (simp; omega) | omega) _) | apply bd | apply ba | apply be)) hcb⟩, ⟨cell_keep (by repeat (first | exact Below.refl _ _ | with_reducible assumption | exact below_alloc _ _ | (refine Below.setCell ?_ (by first | (simp; done) | (simp; omega) | omega) _) | apply bd | apply ba | apply be)) hcx, cell_keep (by repeat (first | exact Below.refl _ _ | with_reducible assumption | exact below_alloc _ _ | (refine Below.setCell ?_ (by first | (simp; done) | (simp; omega) | omega) _) | apply bd | apply ba | apply be)) hcy⟩⟩)
            ((go_at_call 59; go_must (refine (l15Next_any b o c ps _ _ _ (HR.out.2.2.keep (bt hbW (by repeat (first | exact Below.refl _ _ | with_reducible assumption | exact below_alloc _ _ | (refine Below.setCell ?_ (by first | (simp; done) | (simp; omega) | omega) _) | apply bd | apply ba | apply be)))) (by omega)).mono ?_; rw [HOK.out]; rintro e w5 ⟨b5, o5, c5, rfl, hr5, hb5'⟩; have hb5 : Below wr.heap.size wr w5 := bt (by repeat (first | exact Below.refl _ _ | with_reducible assumption | exact below_alloc _ _ | (refine Below.setCell ?_ (by first | (simp; done) | (simp; omega) | omega) _) | apply bd | apply ba | apply be)) hb5')))
          have HR5 := Lib.hid (hr5)
          have hc0 := cell_keep hb5 hc0
          have hc1 := cell_keep hb5 hc1
          have hd0 := cell_keep hb5 hd0
          have hd1 := cell_keep hb5 hd1
          have hca := cell_keep hb5 hca
          have hcb := cell_keep hb5 hcb
          have hcx := cell_keep hb5 hcx
          have hcy := cell_keep hb5 hcy
          have hb05 := bt hb hb5
          have hbW5 := bt hbW hb5
          clear hr5 hb5' hgb hgb1 hgb2
          go_wp2
          go_loopg [12, 13] ps.length (fun q' kb i wr => ∃ m r : Nat, r = 2 * m ∧ m + q' = ps.length ∧ i = .int .i64 r ∧ kb = .bool (known (ps.take m) x) ∧ Below w5.heap.size w5 wr)
          case atStart => exact ⟨0, 0, rfl, by omega, rfl, rfl, Below.refl _ _⟩
          case round =>
            obtain ⟨m, r, hr, hm', rfl, rfl, hb6⟩ := hrel
            have HMM := Lib.hid (And.intro hm' hr)
            have hc0' := cell_keep hb6 hc0
            have hc1' := cell_keep hb6 hc1
            have hd0' := cell_keep hb6 hd0
            have hd1' := cell_keep hb6 hd1
            have hca' := cell_keep hb6 hca
            have hcx' := cell_keep hb6 hcx
            have hgb : b < wr.heap.size := World.block_lt_of_cell? wr _ hca'
            have hgb1 : b1 < wr.heap.size := World.block_lt_of_cell? wr _ hcx'
            have hgB1 : w.heap.size < wr.heap.size := World.block_lt_of_cell? wr _ hc1'
            have hgB2 : w.heap.size + 1 < wr.heap.size := World.block_lt_of_cell? wr _ hd1'
            by_cases hmn : m < ps.length
            · have hri : (r : Int) < 2 * (ps.length : Int) := by omega
              have hgo := gi_flat ps m hmn
              rw [← hr] at hgo
              have hco := ((HR.out.2.2.keep (bt hbW5 hb6)).at r (by rw [flatP_len]; omega)).2
              rw [hgo.1] at hco
              have hkt := known_take hmn x
              have HKT := Lib.hid hkt
              clear hgo hr hm' hkt
              cases hkn : known (ps.take m) x
              · rw [hkn] at HKT
                clear hkn
                go_wp2
                refine wp_region_ext (by kernel_rfl) (by kernel_rfl) ?_
                repeat (go_big_quiet_step (fail))
                refine wpQuiet_nil ?_
                intro w7 hb7
                go_wp2
                go_roundg (gk - 1)
                case rel => exact ⟨m + 1, r + 2, by have := HMM.out.2; omega, by have := HMM.out.1; omega, by go_num, by rw [HKT.out]; rfl, bt hb6 hb7⟩
                case measure => have := HMM.out.1; omega
              · rw [hkn] at HKT
                clear hkn
                go_wp2
                refine wp_region_ext (by kernel_rfl) (by kernel_rfl) ?_
                repeat (go_big_quiet_step (fail))
                refine wpQuiet_nil ?_
                intro w7 hb7
                go_wp2
                go_roundg (gk - 1)
                case rel => exact ⟨m + 1, r + 2, by have := HMM.out.2; omega, by have := HMM.out.1; omega, by go_num, by rw [HKT.out]; rfl, bt hb6 hb7⟩
                case measure => have := HMM.out.1; omega
            · obtain rfl : m = ps.length := by have := HMM.out.1; omega
              have hri : 2 * (ps.length : Int) ≤ (r : Int) := by omega
              have hb06 := bt hb05 hb6
              have hbW6 := bt hbW5 hb6
              clear hr hm'
              rw [List.take_length]
              cases hkn : known ps x
              · by_cases hx1 : 1 ≤ x
                · have hi2 := next_PI (ps := ps) HI.out.2.1 HST.out.2.1.2 HST.out.2.2.2
                  have hnl := nextL_new HOK.out hx1
                  have hn2 : ((nextL ps x y).map (·.1)).Nodup := by rw [hnl]; exact firsts_snoc HI.out.2.2 hkn
                  have hf2 : 9 ≤ (nextL ps x y).length + f := by rw [hnl]; have := HI.out.1; simp; omega
                  have hmf : matchF hl hm (f + 1) ps n = matchF hl hm f (nextL ps x y) n := matchF_next (by rw [HST.out.1, if_neg (by rw [HOK.out]; simp), if_pos ⟨hkn, hx1⟩])
                  have HF := Lib.hid (And.intro hmf (And.intro hf2 (And.intro hi2 hn2)))
                  clear hkn hi2 hnl hn2 hf2 hmf
                  go_wp2
                  refine wp_region_ext (by kernel_rfl) (by kernel_rfl) ?_
                  repeat (go_big_quiet_step (fail))
                  refine wpQuiet_nil ?_
                  intro w7 hb7
                  have hc0' := cell_keep hb7 hc0'
                  have hc1' := cell_keep hb7 hc1'
                  have hd0' := cell_keep hb7 hd0'
                  have hd1' := cell_keep hb7 hd1'
                  go_wp2_with (go_at_call 60; go_must (refine (HM.out _ _ _ _ _ _ _ (nextL ps x y) n _ _ (HR.out.1.1.keep (bt hbW6 hb7)) (HR.out.1.2.keep (bt hbW6 hb7)) (HR.out.2.1.1.keep (bt hbW6 hb7)) (HR.out.2.1.2.keep (bt hbW6 hb7)) HF.out.2.1 HF.out.2.2.1 HF.out.2.2.2 hn1 hn9 rfl (HR5.out.keep (bt hb6 hb7))).mono ?_; rintro e w8 ⟨rfl, hb8⟩; have hb08 := bt (bt hbW6 hb7) hb8))
                  go_ret
                  exact ⟨by rw [HF.out.1]; rfl, hb08⟩
                · have hx0 : x < 1 := by omega
                  have hs2 : scanP hl hm ps ps = scanP hl hm ps (ps.drop (j + 1)) := by rw [HST.out.1, if_neg (by rw [HOK.out]; simp), if_neg (fun h => hx1 h.2)]
                  have HS2 := Lib.hid hs2
                  clear hkn hs2
                  go_wp2
                  refine wp_region_ext (by kernel_rfl) (by kernel_rfl) ?_
                  repeat (go_big_quiet_step (fail))
                  refine wpQuiet_nil ?_
                  intro w7 hb7
                  go_wp2
                  go_roundg (g0 - 1)
                  case rel => exact ⟨j + 1, p + 2, by have := HK.out.2; omega, by have := HK.out.1; omega, by go_num, HS2.out, bt hb06 hb7⟩
                  case measure => have := HK.out.1; omega
              · have hs2 : scanP hl hm ps ps = scanP hl hm ps (ps.drop (j + 1)) := by rw [HST.out.1, if_neg (by rw [HOK.out]; simp), if_neg (fun h => by rw [hkn] at h; exact absurd h.1 (by simp))]
                have HS2 := Lib.hid hs2
                clear hkn hs2
                go_wp2
                refine wp_region_ext (by kernel_rfl) (by kernel_rfl) ?_
                repeat (go_big_quiet_step (fail))
                refine wpQuiet_nil ?_
                intro w7 hb7
                go_wp2
                go_roundg (g0 - 1)
                case rel => exact ⟨j + 1, p + 2, by have := HK.out.2; omega, by have := HK.out.1; omega, by go_num, HS2.out, bt hb06 hb7⟩
                case measure => have := HK.out.1; omega
      · obtain rfl : j = ps.length := by omega
        have hpi : 2 * (ps.length : Int) ≤ (p : Int) := by omega
        have hs0 : scanP hl hm ps ps = none := by rw [HSC.out, List.drop_length]; rfl
        have HS0 := Lib.hid hs0
        have hbW := bt hW hb
        clear hs0 hp hj
        obtain ⟨wo, rfl⟩ : ∃ wo : World, wo = wr := ⟨_, rfl⟩
        go_wp2_with fail
        go_loopg [3] (9 - n) (fun q i wr => ∃ k : Nat, k + q = 9 ∧ n ≤ k ∧ i = .int .i64 k ∧ openP hl ps (9 - n) n = openP hl ps (9 - k) k ∧ Below wo.heap.size wo wr)
        case atStart => exact ⟨n, by omega, Nat.le_refl _, rfl, rfl, Below.refl _ _⟩
        case round =>
          obtain ⟨k, hk, hnk, rfl, hop, hb2⟩ := hrel
          have HK2 := Lib.hid (And.intro hk (And.intro hnk hop))
          have hc0 := cell_keep hb2 hc0
          have hc1 := cell_keep hb2 hc1
          have hd0 := cell_keep hb2 hd0
          have hd1 := cell_keep hb2 hd1
          have hbW2 := bt hbW hb2
          clear hop
          by_cases hk8 : k < 9
          · have hki : (k : Int) ≤ 8 := by omega
            obtain ⟨g0, rfl⟩ : ∃ g0 : Nat, g0 = gk := ⟨_, rfl⟩
            obtain ⟨al, hal⟩ : ∃ al, al = alB hl (k : Int) := ⟨_, rfl⟩
            have HAL := Lib.hid hal
            clear hk hnk hal
            go_wp2_with (go_at_call 122; go_must (refine (l2Has_any _ _ hl _ _ (HR.out.1.2.keep hbW2) (by rw [HV.out.2.2.1]; omega)).mono ?_; rw [← HAL.out]; rintro e w3 ⟨rfl, hb3⟩; have hx0 := cell_keep hb3 hc0; have hx1 := cell_keep hb3 hc1; have hy0 := cell_keep hb3 hd0; have hy1 := cell_keep hb3 hd1; have hbW3 := bt hbW2 hb3; have hb03 := bt hb2 hb3))
            go_loopg [14, 15] ps.length (fun q' kb i wr => ∃ m r : Nat, r = 2 * m ∧ m + q' = ps.length ∧ i = .int .i64 r ∧ kb = .bool (al && !known (ps.take m) (k : Int)) ∧ Below w3.heap.size w3 wr)
            case atStart => exact ⟨0, 0, rfl, by omega, rfl, by simp [known], Below.refl _ _⟩
            case round =>
              obtain ⟨m, r, hr, hm', rfl, rfl, hb6⟩ := hrel
              have HMM := Lib.hid (And.intro hm' hr)
              have hx0 := cell_keep hb6 hx0
              have hx1 := cell_keep hb6 hx1
              have hy0 := cell_keep hb6 hy0
              have hy1 := cell_keep hb6 hy1
              have hbW6 := bt hbW3 hb6
              by_cases hmn : m < ps.length
              · have hri : (r : Int) < 2 * (ps.length : Int) := by omega
                have hgo := gi_flat ps m hmn
                rw [← hr] at hgo
                have hco := ((HR.out.2.2.keep hbW6).at r (by rw [flatP_len]; omega)).2
                rw [hgo.1] at hco
                have hgb : b < wr.heap.size := World.block_lt_of_cell? wr _ hco
                have hkt := known_take hmn (k : Int)
                have HKT := Lib.hid hkt
                clear hgo hr hm' hkt
                cases hkn : (al && !known (ps.take m) (k : Int))
                · have hk2 : (al && !known (ps.take (m + 1)) (k : Int)) = false := by
                    rw [HKT.out]; revert hkn; cases al <;> cases known (ps.take m) (k : Int) <;> simp
                  have HK3 := Lib.hid hk2
                  clear hkn hk2
                  go_wp2
                  go_roundg (gk - 1)
                  case rel => exact ⟨m + 1, r + 2, by have := HMM.out.2; omega, by have := HMM.out.1; omega, by go_num, by rw [HK3.out], hb6⟩
                  case measure => have := HMM.out.1; omega
                · have hk2 : (al && !known (ps.take (m + 1)) (k : Int)) = !((ps[m]).1 == (k : Int)) := by
                    rw [HKT.out]; revert hkn; cases al <;> cases known (ps.take m) (k : Int) <;> simp
                  have HK3 := Lib.hid hk2
                  clear hkn hk2
                  go_wp2
                  go_roundg (gk - 1)
                  case rel => exact ⟨m + 1, r + 2, by have := HMM.out.2; omega, by have := HMM.out.1; omega, by go_num, by rw [HK3.out]; first | rfl | simp, hb6⟩
                  case measure => have := HMM.out.1; omega
              · obtain rfl : m = ps.length := by have := HMM.out.1; omega
                have hri : 2 * (ps.length : Int) ≤ (r : Int) := by omega
                clear hr hm'
                rw [List.take_length]
                cases hkn : (al && !known ps (k : Int))
                · have hop2 : openP hl ps (9 - k) k = openP hl ps (9 - (k + 1)) (k + 1) := by
                    rw [openP_step hk8, if_neg]
                    intro h
                    rw [HAL.out, h.1, h.2] at hkn
                    simp at hkn
                  have HOP := Lib.hid hop2
                  clear hkn hop2
                  go_wp2
                  go_roundg (g0 - 1)
                  case rel => exact ⟨k + 1, by have := HK2.out.1; omega, by have := HK2.out.2.1; omega, by go_num, by rw [HK2.out.2.2, HOP.out], bt hb03 hb6⟩
                  case measure => have := HK2.out.1; omega
                · have hk1 : al = true ∧ known ps (k : Int) = false := by revert hkn; cases al <;> cases known ps (k : Int) <;> simp
                  have hmf : matchF hl hm (f + 1) ps n = (List.range 8).any (guessP hl hm f ps k) := matchF_open HS0.out (by rw [HK2.out.2.2, openP_step hk8, if_pos ⟨by rw [← HAL.out]; exact hk1.1, hk1.2⟩])
                  have HF := Lib.hid (And.intro hmf hk1.2)
                  clear hkn hk1 hmf
                  go_wp2_with (go_at_call 123; go_must (refine (guess_any vl hl vm hm HV.out.1 HV.out.2.1 f HM.out _ _ _ _ b o c ps k _ (HR.out.1.1.keep hbW6) (HR.out.1.2.keep hbW6) (HR.out.2.1.1.keep hbW6) (HR.out.2.1.2.keep hbW6) (by have := HI.out.1; omega) HI.out.2.1 HI.out.2.2 (by have := HK2.out; omega) (by omega) HF.out.2 (HR.out.2.2.keep hbW6)).mono ?_; rw [← HF.out.1]; rintro e w8 ⟨rfl, hb8⟩))
                  go_ret
                  exact ⟨rfl, bt hbW6 hb8⟩
          · obtain rfl : k = 9 := by omega
            have hmf : matchF hl hm (f + 1) ps n = decide ((usedA' hl).length = (usedA' hm).length) := matchF_end HS0.out (by rw [HK2.out.2.2]; rfl)
            have HF := Lib.hid hmf
            clear hmf hk hnk
            go_wp2_with fail
            go_region_held3 (fun w' => (w'.cell? ⟨w.heap.size, 0, none⟩ = some s1 ∧ w'.cell? ⟨w.heap.size, 1, none⟩ = some (.slice (some ⟨b1, o1, none⟩) 8 c1)) ∧ (w'.cell? ⟨w.heap.size + 1, 0, none⟩ = some s2 ∧ w'.cell? ⟨w.heap.size + 1, 1, none⟩ = some (.slice (some ⟨b2, o2, none⟩) 8 c2)))
              (exact ⟨⟨cell_keep (by repeat (first | exact Below.refl _ _ | with_reducible assumption | exact below_alloc _ _ | (refine Below.setCell ?_ (by first | (simp; done) | (simp; omega) | omega) _) | apply bd | apply ba | apply be)) hc0, cell_keep (by repeat (first | exact Below.refl _ _ | with_reducible assumption | exact below_alloc _ _ | (refine Below.setCell ?_ (by first | (simp; done) | (simp; omega) | omega) _) | apply bd | apply ba | apply be)) hc1⟩, ⟨cell_keep (by repeat (first | exact Below.refl _ _ | with_reducible assumption | exact below_alloc _ _ | (refine Below.setCell ?_ (by first | (simp; done) | (simp; omega) | omega) _) | apply bd | apply ba | apply be)) hd0, cell_keep (by repeat (first | exact Below.refl _ _ | with_reducible assumption | exact below_alloc _ _ | (refine Below.setCell ?_ (by first | (simp; done) | (simp; omega) | omega) _) | apply bd | apply ba | apply be)) hd1⟩⟩)
              (first
                | (go_at_call 124; (with_reducible refine (specUsed_any s1 (.slice (some ⟨b1, o1, none⟩) 8 c1) vl hl _ (HR.out.1.1.keep (bt hbW2 (by repeat (first | exact Below.refl _ _ | with_reducible assumption | exact below_alloc _ _ | (refine Below.setCell ?_ (by first | (simp; done) | (simp; omega) | omega) _) | apply bd | apply ba | apply be)))) (HR.out.1.2.keep (bt hbW2 (by repeat (first | exact Below.refl _ _ | with_reducible assumption | exact below_alloc _ _ | (refine Below.setCell ?_ (by first | (simp; done) | (simp; omega) | omega) _) | apply bd | apply ba | apply be)))) HV.out.1).mono ?_); rintro e w8 ⟨t8, rfl, hs8, hb8'⟩; obtain ⟨sa8, sc8, rfl, _⟩ := own_form hs8; have hb8 : Below wr.heap.size wr w8 := bt (by repeat (first | exact Below.refl _ _ | with_reducible assumption | exact below_alloc _ _ | (refine Below.setCell ?_ (by first | (simp; done) | (simp; omega) | omega) _) | apply bd | apply ba | apply be)) hb8')
                | (go_at_call 124; go_must (refine (specUsed_any s2 (.slice (some ⟨b2, o2, none⟩) 8 c2) vm hm _ (HR.out.2.1.1.keep (bt hbW2 (by repeat (first | exact Below.refl _ _ | with_reducible assumption | exact below_alloc _ _ | (refine Below.setCell ?_ (by first | (simp; done) | (simp; omega) | omega) _) | apply bd | apply ba | apply be)))) (HR.out.2.1.2.keep (bt hbW2 (by repeat (first | exact Below.refl _ _ | with_reducible assumption | exact below_alloc _ _ | (refine Below.setCell ?_ (by first | (simp; done) | (simp; omega) | omega) _) | apply bd | apply ba | apply be)))) HV.out.2.1).mono ?_; rintro e w9 ⟨t9, rfl, hs9, hb9'⟩; obtain ⟨sa9, sc9, rfl, _⟩ := own_form hs9; have hb9 : Below wr.heap.size wr w9 := bt (by repeat (first | exact Below.refl _ _ | with_reducible assumption | exact below_alloc _ _ | (refine Below.setCell ?_ (by first | (simp; done) | (simp; omega) | omega) _) | apply bd | apply ba | apply be)) hb9')))
            all_goals
              have hbb := bt hbW2 hb9
              go_wp2
              go_ret
              exact ⟨by rw [HF.out]; simp [beq_cast], hbb⟩
end Go.Proofs.Ytnhhfbhhglhocaa

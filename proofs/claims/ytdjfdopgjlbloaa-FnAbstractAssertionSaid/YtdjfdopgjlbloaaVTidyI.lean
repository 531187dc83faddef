/- Walk: impl.tidy. -/
import Derived.Test.YtdjfdopgjlbloaaVTidyS
import Derived.Test.YtdjfdopgjlbloaaVNfI
import Derived.Deep.QuietTactic
set_option linter.unusedVariables false
set_option linter.unusedSimpArgs false
namespace Go.Proofs.Ytdjfdopgjlbloaa
open Go.RowKit

def logN (m : Nat) : Nat := m / 32 * 32
theorem logN_bit (m b : Nat) : (logN m).testBit b = (decide (5 ≤ b) && m.testBit b) := by
  rw [logN, show m / 32 * 32 = (m >>> 5) <<< 5 by rw [Nat.shiftLeft_eq, Nat.shiftRight_eq_div_pow], Nat.testBit_shiftLeft, Nat.testBit_shiftRight]
  by_cases h : 5 ≤ b
  · rw [decide_eq_true h, show 5 + (b - 5) = b by omega]
  · rw [decide_eq_false h]; rfl
theorem logN_lt {m : Nat} (h : m < 65536) : logN m < 65536 := by rw [logN]; omega
theorem not_bit {K b : Nat} (hK : K < 65536) : (65535 - K).testBit b = (decide (b < 16) && !K.testBit b) := by
  have := Nat.testBit_two_pow_sub_succ (n := 16) (x := K) hK b
  rwa [show 2 ^ 16 - (K + 1) = 65535 - K by omega] at this
theorem zero_iff {n : Nat} : (n == 0) = true ↔ ∀ b, n.testBit b = false := by
  rw [beq_iff_eq]
  constructor
  · rintro rfl b; exact Nat.zero_testBit b
  · intro h; exact Nat.eq_of_testBit_eq fun b => by rw [h b, Nat.zero_testBit]
theorem rest_bits {K i j : Nat} (hK : K < 65536) (hi : i ≤ 8) (hj : j ≤ 8) : ((logN (termM (termM 0 (i : Int)) (j : Int)) &&& (65535 - K)) == 0) = (okT K (i : Int) && okT K (j : Int)) := by
  have ti : isTermB (i : Int) = true := by simp [isTermB]; omega
  have tj : isTermB (j : Int) = true := by simp [isTermB]; omega
  have hbit : ∀ b, (logN (termM (termM 0 (i : Int)) (j : Int)) &&& (65535 - K)).testBit b = (decide (5 ≤ b) && (decide (i = b) || decide (j = b)) && (decide (b < 16) && !K.testBit b)) := fun b => by
    rw [Nat.testBit_and, logN_bit, not_bit hK, termM, if_pos tj, termM, if_pos ti, Nat.testBit_or, Nat.testBit_or, Nat.zero_testBit, Int.toNat_natCast, Int.toNat_natCast, Nat.testBit_two_pow, Nat.testBit_two_pow, Bool.false_or]
  have e : ∀ n : Nat, n ≤ 8 → (okT K (n : Int) = true ↔ (5 ≤ n → K.testBit n = true)) := fun n hn => by
    rw [okT, has_nat hn, Bool.or_eq_true, decide_eq_true_eq]
    constructor
    · rintro (h | h) h5
      · omega
      · exact h
    · intro h
      by_cases h5 : 5 ≤ n
      · exact .inr (h h5)
      · left; omega
  rw [Bool.eq_iff_iff, zero_iff, Bool.and_eq_true, e i hi, e j hj]
  constructor
  · intro h
    refine ⟨fun h5 => ?_, fun h5 => ?_⟩
    · have := h i
      rw [hbit, decide_eq_true h5, decide_eq_true (show i < 16 by omega)] at this
      simpa using this
    · have := h j
      rw [hbit, decide_eq_true h5, decide_eq_true (show j < 16 by omega)] at this
      simpa using this
  · rintro ⟨h1, h2⟩ b
    rw [hbit]
    by_cases h5 : 5 ≤ b
    · by_cases e1 : i = b
      · subst e1; rw [h1 h5]; simp
      · by_cases e2 : j = b
        · subst e2; rw [h2 h5]; simp
        · simp [e1, e2]
    · simp [h5]
theorem logical_any (m : Nat) (w : World) (hm : m < 65536) : Calls Try.prog 73 #[.int .u16 m] w fun e w' => e = .returned (.int .u16 (logN m : Int)) ∧ w = w' := by
  have hl : ((logN m : Nat) : Int) = (m : Int) / 32 * 32 := by rw [logN]; simp
  have HL := Lib.hid hl
  clear hl
  go_enter Try.func73, Try.ntmps73
  go_wp2
  go_ret
  exact ⟨by rw [HL.out]; rfl, rfl⟩
theorem logical_val {m n : Nat} (w : World) (hm : m < 65536) (h : logN m = n) : Calls Try.prog 73 #[.int .u16 m] w fun e w' => e = .returned (.int .u16 (n : Int)) ∧ w = w' := by
  subst h; exact logical_any m w hm
theorem with0_val {n : Nat} {t : Int} (w : World) (h : termM 0 t = n) : Calls Try.prog 51 #[.int .u16 0, .int .i64 t] w fun e w' => e = .returned (.int .u16 n) ∧ w = w' :=
  withT_val (m := 0) w (by decide) h
set_option maxRecDepth 100000 in
set_option maxHeartbeats 6400000 in
theorem tidyI_any {S1 S2 : Nat → Prop} (v1 v2 : Value) (a : Asn) (m : Nat) (w : World) (h1 : RL w S1 v1 a.1) (h2 : RL w S2 v2 a.2) (hm : m < 65536) (ha : asnB a = true) :
    Calls Try.prog 45 #[.agg #[v1, v2], .int .u16 m] w fun e w' => ∃ x1 x2, e = .returned (.agg #[x1, x2]) ∧ ((FE w' w.heap.size x1 (tidyB m a).1 ∧ FE w' w.heap.size x2 (tidyB m a).2) ∧ (NilE (tidyB m a).1 x1 ∧ NilE (tidyB m a).2 x2)) ∧ Below w.heap.size w w' := by
  obtain ⟨p1, c1, rfl⟩ := h1.form
  obtain ⟨p2, c2, rfl⟩ := h2.form
  have hbA := box_keep (heap_alloc_new w (.cells #[.slice p1 a.1.length c1, .slice p2 a.2.length c2] 26)) (below_alloc _ (.cells #[.slice none 0 0, .slice none 0 0] 26))
  have hbR := heap_alloc_new (w.alloc (.cells #[.slice p1 a.1.length c1, .slice p2 a.2.length c2] 26)) (.cells #[.slice none 0 0, .slice none 0 0] 26)
  rw [World.size_alloc] at hbR
  have hB0 : Below w.heap.size w ((w.alloc (.cells #[.slice p1 a.1.length c1, .slice p2 a.2.length c2] 26)).alloc (.cells #[.slice none 0 0, .slice none 0 0] 26)) := Bl
  have H0 := Lib.hid (And.intro (And.intro hbA hbR) (And.intro hB0 (And.intro h1 h2)))
  have HA := Lib.hid ha
  have hlb := asnLe ha
  have hs1 : a.1.length ≤ 1048576 := by omega
  have hs2 : a.2.length ≤ 1048576 := by omega
  clear hbA hbR hB0 h1 h2 ha hlb
  go_enter Try.func45, Try.ntmps45
  go_wp2_with fail
  refine (copyAssertion_any _ _ a _ (H0.out.2.2.1.keep Bl) (H0.out.2.2.2.keep Bl) hs1 hs2).mono ?_
  rintro e w2 ⟨x1, x2, rfl, ⟨f1, f2, o1, o2, hn⟩, hb⟩
  obtain ⟨u1, k1, rfl⟩ := o1.read.form
  obtain ⟨u2, k2, rfl⟩ := o2.read.form
  have hA1 := box_keep H0.out.1.1 hb
  have hzz := box_lt hA1
  have hzw := hb.size
  simp only [World.size_alloc] at hzw
  have hs6 := fr_twoR w2 w.heap.size (.slice u1 a.1.length k1) (.slice u2 a.2.length k2)
  have q1 : RL w2 (fun k => w.heap.size + 2 ≤ k) _ a.1 := o1.read.more fun k _ hk => by have := (o1.lt k hk).1; simpa using this
  have q2 : RL w2 (fun k => w.heap.size + 2 ≤ k) _ a.2 := o2.read.more fun k _ hk => by have := (o2.lt k hk).1; simpa using this
  have far : ∀ k, k < w2.heap.size → (fun k => w.heap.size + 2 ≤ k) k → ¬ (fun j => j = w.heap.size) k := fun k _ h e => by
    have h2 : w.heap.size + 2 ≤ k := h
    have e2 : k = w.heap.size := e
    omega
  have H2 := Lib.hid (And.intro (And.intro (box_set1 (box_set0 hA1 (.slice u1 a.1.length k1)) (.slice u2 a.2.length k2)) (box_other (box_other (box_keep H0.out.1.2 hb) ⟨w.heap.size, 0, none⟩ (.slice u1 a.1.length k1) (by show ¬ w.heap.size + 1 = w.heap.size; omega)) ⟨w.heap.size, 1, none⟩ (.slice u2 a.2.length k2) (by show ¬ w.heap.size + 1 = w.heap.size; omega))) (And.intro (And.intro (q1.kept hs6 far) (q2.kept hs6 far)) (((bt H0.out.2.1 hb).setCell (p := ⟨w.heap.size, 0, none⟩) (Nat.le_refl _) (.slice u1 a.1.length k1)).setCell (p := ⟨w.heap.size, 1, none⟩) (Nat.le_refl _) (.slice u2 a.2.length k2))))
  have HZ := Lib.hid hzw
  have c0 := box0 hA1
  have c1' := box1 hA1
  have cz := boxz hA1
  clear hA1 hs6 q1 q2 far o1 o2 hn hb H0 hzw
  go_wp2
  clear c0 c1' cz hzz
  go_loopg [] 4 (fun q wr => ∃ (b : Asn) (o1 o2 : Value), (asnB b = true ∧ tidyN m q b = tidyN m 4 a ∧ cntF m b.1 ≤ q) ∧ (wr.heap[w.heap.size]? = some (.cells #[o1, o2] 26 (0, 0)) ∧ wr.heap[w.heap.size + 1]? = some (.cells #[.slice none 0 0, .slice none 0 0] 26 (0, 0))) ∧ (RL wr (fun k => w.heap.size + 2 ≤ k) o1 b.1 ∧ RL wr (fun k => w.heap.size + 2 ≤ k) o2 b.2) ∧ Below w.heap.size w wr)
  case atStart => exact ⟨a, _, _, ⟨HA.out, rfl, cntF_le _ _⟩, H2.out⟩
  case round =>
    clear H2
    obtain ⟨b, o1, o2, hpl, hBB, hoo, hW⟩ := hrel
    obtain ⟨d1, e1, rfl⟩ := hoo.1.form
    obtain ⟨d2, e2, rfl⟩ := hoo.2.form
    obtain ⟨r, hr⟩ : ∃ r, knownF m b.1 = r := ⟨_, rfl⟩
    have HP := Lib.hid (And.intro hpl.1 (And.intro hpl.2.1 (And.intro hpl.2.2 hr)))
    have HR := Lib.hid (And.intro hBB (And.intro hoo hW))
    have b0 := box0 hBB.1
    have bl := box_lt hBB.1
    clear hpl hBB hoo hW hr
    go_wp2_with fail
    refine (firstSub_any _ b.1 m r _ HR.out.2.1.1 hm (asn_parts HP.out.1).1 HP.out.2.2.2).mono ?_
    rintro e w3 ⟨rfl, hb3⟩
    have HR3 := Lib.hid (And.intro (And.intro (box_keep HR.out.1.1 hb3) (box_keep HR.out.1.2 hb3)) (And.intro (And.intro (HR.out.2.1.1.keep hb3) (HR.out.2.1.2.keep hb3)) (bt HR.out.2.2 hb3)))
    clear b0 bl HR hb3
    cases r with
    | some s =>
      obtain ⟨sx, st⟩ := s
      have hkv := known_valid HP.out.1 HP.out.2.2.2
      have HK := Lib.hid hkv
      have hlb := asnLe HP.out.1
      have hl1 : (b.1.length : Int) ≤ 12 := by omega
      have hl2 : (b.2.length : Int) ≤ 8 := by omega
      clear hkv hlb
      have hk0 : kX (some (sx, st)) = sx := rfl
      have hk1 : kT (some (sx, st)) = st := rfl
      have hk2 : isSo (some (sx, st)) = true := rfl
      rw [hk0, hk1, hk2]
      clear hk0 hk1 hk2
      have hb4 := below_alloc w3 (.cells #[.int .i64 sx, .int .i64 st] 103)
      have b0 := box0 HR3.out.1.1
      have b1 := box1 HR3.out.1.1
      have bl := box_lt HR3.out.1.1
      have HR4 := Lib.hid (And.intro (And.intro (box_keep HR3.out.1.1 hb4) (box_keep HR3.out.1.2 hb4)) (And.intro (And.intro (HR3.out.2.1.1.keep hb4) (HR3.out.2.1.2.keep hb4)) (bt HR3.out.2.2 hb4)))
      clear hb4
      go_wp2_with fail
      refine (replaceIn_any _ _ b sx st _ HR4.out.2.1.1 HR4.out.2.1.2 hl1 hl2).mono ?_
      rintro e w5 ⟨y1, y2, rfl, ⟨hy1, hy2⟩, hb5⟩
      obtain ⟨g1, n1, rfl⟩ := hy1.form
      obtain ⟨g2, n2, rfl⟩ := hy2.form
      have hO5 := box_keep HR4.out.1.1 hb5
      have hzw := HZ.out
      have hle := HR4.out.2.2.size
      have hzz := box_lt HR4.out.1.2
      have hs6 := fr_twoR w5 w.heap.size (.slice g1 (subB b sx st).1.length n1) (.slice g2 (subB b sx st).2.length n2)
      have far : ∀ k, k < w5.heap.size → (fun k => w.heap.size + 2 ≤ k) k → ¬ (fun j => j = w.heap.size) k := fun k _ h e => by
        have h2 : w.heap.size + 2 ≤ k := h
        have e2 : k = w.heap.size := e
        omega
      have mor : ∀ k, k < w5.heap.size → (fun k => (w3.alloc (.cells #[.int .i64 sx, .int .i64 st] 103)).heap.size ≤ k) k → (fun k => w.heap.size + 2 ≤ k) k := fun k _ h => Nat.le_trans (by omega) h
      have H6 := Lib.hid (And.intro (And.intro (box_set1 (box_set0 hO5 (.slice g1 (subB b sx st).1.length n1)) (.slice g2 (subB b sx st).2.length n2)) (box_other (box_other (box_keep HR4.out.1.2 hb5) ⟨w.heap.size, 0, none⟩ (.slice g1 (subB b sx st).1.length n1) (by show ¬ w.heap.size + 1 = w.heap.size; omega)) ⟨w.heap.size, 1, none⟩ (.slice g2 (subB b sx st).2.length n2) (by show ¬ w.heap.size + 1 = w.heap.size; omega))) (And.intro (And.intro ((hy1.more mor).kept hs6 far) ((hy2.more mor).kept hs6 far)) (((bt HR4.out.2.2 hb5).setCell (p := ⟨w.heap.size, 0, none⟩) (Nat.le_refl _) (.slice g1 (subB b sx st).1.length n1)).setCell (p := ⟨w.heap.size, 1, none⟩) (Nat.le_refl _) (.slice g2 (subB b sx st).2.length n2))))
      have c0 := box0 hO5
      have c1' := box1 hO5
      have cz := boxz hO5
      clear hO5 hs6 far mor hy1 hy2 hb5 b0 b1 bl hzw hle hzz
      go_wp2
      go_roundg (gk - 1)
      case rel =>
        have hc := HK.out.2.2.2
        have hq := HP.out.2.2.1
        have hgk : gk = (gk - 1) + 1 := by omega
        refine ⟨subB b sx st, _, _, ⟨HK.out.2.2.1, ?_, by omega⟩, H6.out⟩
        rw [← HP.out.2.1, hgk, tidy_step HP.out.2.2.2]; rfl
      case measure =>
        have hc := HK.out.2.2.2
        have hq := HP.out.2.2.1
        omega
    | none =>
      obtain ⟨wm, rfl⟩ : ∃ wm : World, wm = wr := ⟨_, rfl⟩
      have hk2 : isSo (none : Option (Int × Int)) = false := rfl
      have hk0 : kX (none : Option (Int × Int)) = 0 := rfl
      have hk1 : kT (none : Option (Int × Int)) = 0 := rfl
      rw [hk0, hk1, hk2]
      clear hk0 hk1 hk2
      have hbb : b = tidyN m 4 a := by rw [← HP.out.2.1, tidy_stop HP.out.2.2.2]
      have HBB := Lib.hid hbb
      have hlb := asnLe HP.out.1
      have hlf : b.1.length ≤ 12 := hlb.1.1
      have hall := asn_parts HP.out.1
      have HALL := Lib.hid hall
      clear hbb hlb hall
      have hb4 := below_alloc w3 (.cells #[.int .i64 0, .int .i64 0] 103)
      have b0 := box0 HR3.out.1.1
      have b1 := box1 HR3.out.1.1
      have bl := box_lt HR3.out.1.1
      have HR4 := Lib.hid (And.intro (And.intro (box_keep HR3.out.1.1 hb4) (box_keep HR3.out.1.2 hb4)) (And.intro (And.intro (HR3.out.2.1.1.keep hb4) (HR3.out.2.1.2.keep hb4)) (bt HR3.out.2.2 hb4)))
      clear hb4
      go_wp2_with fail
      refine (termsIn_any (S1 := fun _ => True) _ _ (([] : List Fact), b.2) _ (RL.nil _ _) HR4.out.2.1.2).mono ?_
      rintro e w5 ⟨rfl, hb5⟩
      obtain ⟨U, hU⟩ : ∃ U, termsM ([], b.2) = U := ⟨_, rfl⟩
      rw [hU]
      have hUl : U < 65536 := by rw [← hU]; exact termsM_lt _
      have hor : bits .or .u16 (m : Int) (U : Int) = ((m ||| U : Nat) : Int) := u16_or_nat m U hm hUl
      have hKl : m ||| U < 65536 := Nat.or_lt_two_pow (n := 16) hm hUl
      have HU := Lib.hid (And.intro hU hKl)
      have HR5 := Lib.hid (And.intro (And.intro (box_keep HR4.out.1.1 hb5) (box_keep HR4.out.1.2 hb5)) (And.intro (And.intro (HR4.out.2.1.1.keep hb5) (HR4.out.2.1.2.keep hb5)) (bt HR4.out.2.2 hb5)))
      clear hU hUl hKl hb5 b0 b1 bl
      have b0 := box0 HR5.out.1.1
      have b1 := box1 HR5.out.1.1
      have bl := box_lt HR5.out.1.1
      have q1 : RL w5 (fun k => k < w5.heap.size) (.slice d1 b.1.length e1) b.1 := HR5.out.2.1.1.more fun k hk _ => hk
      have q2 : RL w5 (fun k => k < w5.heap.size) (.slice d2 b.2.length e2) b.2 := HR5.out.2.1.2.more fun k hk _ => hk
      have hbE := below_alloc w5 (.cells #[.slice none 0 0, .slice d2 b.2.length e2] 26)
      have hbX := heap_alloc_new w5 (.cells #[.slice none 0 0, .slice d2 b.2.length e2] 26)
      have H5 := Lib.hid (And.intro (And.intro hbX (box_keep HR5.out.1.2 hbE)) (And.intro (And.intro (q1.keep hbE) (q2.keep hbE)) (And.intro (bt HR5.out.2.2 hbE) hbE)))
      have HL5 := Lib.hid (And.intro HR5.out.2.2.size (box_lt HR5.out.1.2))
      clear q1 q2 hbE hbX HR3 HR4 HR5
      go_wp2
      clear b0 b1 bl hor
      go_loopg [41] b.1.length (fun q i wr => ∃ (k : Nat) (y : Value), k + q = b.1.length ∧ i = .int .i64 k ∧ FE wr w5.heap.size y ((b.1.take k).filter (restB (m ||| U))) ∧ (wr.heap[w5.heap.size]? = some (.cells #[y, .slice d2 b.2.length e2] 26 (0, 0)) ∧ wr.heap[w.heap.size + 1]? = some (.cells #[.slice none 0 0, .slice none 0 0] 26 (0, 0))) ∧ (RL wr (fun k => k < w5.heap.size) (.slice d1 b.1.length e1) b.1 ∧ RL wr (fun k => k < w5.heap.size) (.slice d2 b.2.length e2) b.2) ∧ Below w.heap.size w wr ∧ Below w5.heap.size w5 wr)
      case atStart => exact ⟨0, _, by omega, rfl, FE.nil _ _ _, H5.out⟩
      case round =>
        clear H5
        obtain ⟨k, y, hk, rfl, hF, hBB, hqq, hW, hW5⟩ := hrel
        have HK := Lib.hid hk
        clear hk
        obtain ⟨L, hL⟩ : ∃ L, (b.1.take k).filter (restB (m ||| U)) = L := ⟨_, rfl⟩
        have hLk : L.length ≤ k := by rw [← hL]; exact filt_len _ _
        rw [hL] at hF
        obtain ⟨ua, un, uc, rfl⟩ := hF.forms
        by_cases hk8 : k < b.1.length
        · have hki : (k : Int) < (b.1.length : Int) := by omega
          obtain ⟨qa, qc, hqe, _, _, hqf⟩ := hqq.1.factAt
          simp only [Value.slice.injEq] at hqe
          obtain ⟨rfl, _, rfl⟩ := hqe
          obtain ⟨bb, oo, rfl, _, hz1, hp1, hp2, hp3⟩ := hqf k hk8
          obtain ⟨X, hX⟩ : ∃ X, gd b.1 k = X := ⟨_, rfl⟩
          obtain ⟨X1, X2, X3⟩ := X
          have hv := factB_iff.1 (HALL.out.1 _ (gd_mem hk8))
          rw [hX] at hp1 hp2 hp3 hv
          simp only at hp1 hp2 hp3 hv
          obtain ⟨i2, rfl⟩ := Int.eq_ofNat_of_zero_le hv.1.1
          obtain ⟨i3, rfl⟩ := Int.eq_ofNat_of_zero_le hv.2.1
          have u2 : i2 ≤ 8 := by omega
          have u3 : i3 ≤ 8 := by omega
          obtain ⟨c, hc⟩ : ∃ c, restB (m ||| U) (X1, (i2 : Int), (i3 : Int)) = c := ⟨_, rfl⟩
          obtain ⟨n1, hn1⟩ : ∃ n, termM 0 (i2 : Int) = n := ⟨_, rfl⟩
          obtain ⟨n2, hn2⟩ : ∃ n, termM n1 (i3 : Int) = n := ⟨_, rfl⟩
          obtain ⟨n3, hn3⟩ : ∃ n, logN n2 = n := ⟨_, rfl⟩
          have l1 : n1 < 65536 := by rw [← hn1]; exact termM_lt (by decide)
          have l2 : n2 < 65536 := by rw [← hn2]; exact termM_lt l1
          have l3 : n3 < 65536 := by rw [← hn3]; exact logN_lt l2
          have hbits := rest_bits HU.out.2 u2 u3
          rw [hn1, hn2, hn3] at hbits
          have hand := u16_andNot_nat n3 (m ||| U) l3 HU.out.2
          have hce : (n3 &&& (65535 - (m ||| U)) == 0) = c := hbits.trans hc
          obtain ⟨z, hz⟩ : ∃ z, n3 &&& (65535 - (m ||| U)) = z := ⟨_, rfl⟩
          rw [hz] at hand hce
          have hcz : ((z : Int) == 0) = c := by rw [← hce]; rw [Bool.eq_iff_iff]; simp
          have HNN := Lib.hid (And.intro (And.intro hn1 (And.intro hn2 hn3)) (And.intro l1 l2))
          have HCZ := Lib.hid (And.intro hand hcz)
          have hbF := below_alloc wr (.cells #[.bool X1, .int .i64 i2, .int .i64 i3] 53)
          have hFX := heap_alloc_new wr (.cells #[.bool X1, .int .i64 i2, .int .i64 i3] 53)
          have HD := Lib.hid (And.intro (And.intro (hF.keep hbF) (And.intro (box_keep hBB.1 hbF) (box_keep hBB.2 hbF))) (And.intro (And.intro (hqq.1.keep hbF) (hqq.2.keep hbF)) (And.intro (bt hW hbF) (bt hW5 hbF))))
          have HX := Lib.hid (And.intro hX (And.intro hc hL))
          have HF5 := Lib.hid hW5.size
          have HLK := Lib.hid (show L.length ≤ k ∧ k ≤ 12 from ⟨hLk, by omega⟩)
          clear hqf hv u2 u3 hbF hF hBB hqq hW hW5 hX hc hL hLk hn1 hn2 hn3 l1 l2 l3 hbits hand hce hz hcz
          go_upto_region 11 with fail
          go_cut [55] from 45 to 55 (fun s wc => s = .bool c ∧ Below wr.heap.size wr wc ∧ Below (wr.alloc (.cells #[.bool X1, .int .i64 i2, .int .i64 i3] 53)).heap.size (wr.alloc (.cells #[.bool X1, .int .i64 i2, .int .i64 i3] 53)) wc)
          case first =>
            obtain ⟨hand, hcz⟩ := HCZ.out
            refine wp_region_ext (by kernel_rfl) (by kernel_rfl) ?_
            repeat (go_big_quiet_step (first
              | (go_at_call 73; exact ext_same (logical_val _ HNN.out.2.2 HNN.out.1.2.2))
              | (go_at_call 51; first | with_reducible exact ext_same (with0_val _ HNN.out.1.1) | with_reducible exact ext_same (withT_val _ HNN.out.2.1 HNN.out.1.2.1))))
            refine wpQuiet_nil ?_
            intro w6 hb6
            go_wp2
            go_meet
            case rel => exact ⟨rfl, bt (below_alloc _ _) hb6, hb6⟩
          case rest =>
            obtain ⟨rfl, hbw, hbf⟩ := hcut
            have HE := Lib.hid (And.intro (And.intro (HD.out.1.1.keep hbf) (And.intro (box_keep HD.out.1.2.1 hbf) (box_keep HD.out.1.2.2 hbf))) (And.intro (And.intro (HD.out.2.1.1.keep hbf) (HD.out.2.1.2.keep hbf)) (And.intro (bt HD.out.2.2.1 hbf) (bt HD.out.2.2.2 hbf))))
            have hFX := box_keep hFX hbf
            clear hp1 hp2 hp3 HD hbf
            cases c with
            | false =>
              have HN := Lib.hid (show (b.1.take (k + 1)).filter (restB (m ||| U)) = L by rw [filt_no hk8 (by rw [HX.out.1]; exact HX.out.2.1), HX.out.2.2])
              clear hFX hbw
              go_wp2
              go_roundg (gk - 1)
              case rel => exact ⟨k + 1, _, by have := HK.out; omega, by go_num, by rw [HN.out]; exact HE.out.1.1, HE.out.1.2, HE.out.2⟩
              case measure => have := HK.out; omega
            | true =>
              have HN := Lib.hid (show (b.1.take (k + 1)).filter (restB (m ||| U)) = L ++ [(X1, (i2 : Int), (i3 : Int))] by rw [filt_yes hk8 (by rw [HX.out.1]; exact HX.out.2.1), HX.out.2.2, HX.out.1])
              have e0 := c30 hFX
              have e1 := c31 hFX
              have e2 := c32 hFX
              have ez := box_lt hFX
              have d0 := box0 HE.out.1.2.1
              have dz := boxz HE.out.1.2.1 0
              have dl := box_lt HE.out.1.2.1
              have hlk := HLK.out
              have hzw5 := Nat.le_trans HF5.out hbw.size
              clear hFX hbw
              go_wp2_with (at_builtin; go_must (refine app_F (l := L) (m := [((X1, (i2 : Int), (i3 : Int)) : Fact)]) (B := w5.heap.size) (by rfl) (.tmp 57) (.tmp 59) _ (by rfl) ti_fact (by rfl) (HE.out.1.1.keep (below_alloc _ _)) (by rfl) (lit_fact_at rfl _ _ _ _) (by simp; omega) (by simp; omega) ?_; intro v' w7 o7 hf7; obtain ⟨a7, n7, c7, rfl⟩ := o7.forms; have hA7 := box_tf (box_keep HE.out.1.2.1 (below_alloc wc (.cells #[.bool X1, .int .i64 i2, .int .i64 i3] 53))) hf7 (by decide); have hb0 := box0 hA7; have hbz := boxz hA7 0; have hbl7 := box_lt hA7; have HA7 := Lib.hid hA7; clear hA7))
              have hkp := below_alloc wc (.cells #[.bool X1, .int .i64 i2, .int .i64 i3] 53)
              have hb7 := tf_below hf7 (by simp; omega)
              have far : ∀ k, k < (wc.alloc (.cells #[.bool X1, .int .i64 i2, .int .i64 i3] 53)).heap.size → (fun k => k < w5.heap.size) k → ¬ TF (wc.alloc (.cells #[.bool X1, .int .i64 i2, .int .i64 i3] 53)) w5.heap.size 53 k := fun k _ hs ht => by
                have h2 : k < w5.heap.size := hs
                have := ht.1
                omega
              have hset := fr_set w7 ⟨w5.heap.size, 0, none⟩ (.slice a7 n7 c7)
              have far2 : ∀ k, k < w7.heap.size → (fun k => k < w5.heap.size) k → ¬ (fun j => j = w5.heap.size) k := fun k _ hs e => by
                have h2 : k < w5.heap.size := hs
                have e2 : k = w5.heap.size := e
                omega
              have hll := HL5.out
              have hne : ¬ w.heap.size + 1 = w5.heap.size := by omega
              have H7 := Lib.hid (And.intro (And.intro (o7.setB (p := ⟨w5.heap.size, 0, none⟩) (u := .slice a7 n7 c7) (tf_ne HA7.out (by decide))) (And.intro (box_set0 HA7.out (.slice a7 n7 c7)) (box_other (box_tf (box_keep HE.out.1.2.2 hkp) hf7 (by decide)) ⟨w5.heap.size, 0, none⟩ (.slice a7 n7 c7) hne))) (And.intro (And.intro (((HE.out.2.1.1.keep hkp).kept hf7 far).kept hset far2) (((HE.out.2.1.2.keep hkp).kept hf7 far).kept hset far2)) (And.intro (((bt HE.out.2.2.1 hkp).trans (hb7.mono (by omega))).setCell (p := ⟨w5.heap.size, 0, none⟩) (by show w.heap.size ≤ w5.heap.size; omega) (.slice a7 n7 c7)) (((bt HE.out.2.2.2 hkp).trans hb7).setCell (p := ⟨w5.heap.size, 0, none⟩) (Nat.le_refl _) (.slice a7 n7 c7)))))
              clear o7 hf7 hkp hb7 far far2 hset hlk hzw5 e0 e1 e2 ez d0 dz dl hll hne
              go_wp2
              go_roundg (gk - 1)
              case rel => exact ⟨k + 1, _, by have := HK.out; omega, by go_num, by rw [HN.out]; exact H7.out.1.1, H7.out.1.2, H7.out.2⟩
              case measure => have := HK.out; omega
        · obtain rfl : k = b.1.length := by have := HK.out; omega
          rw [List.take_length] at hL
          obtain ⟨wn, rfl⟩ : ∃ wn : World, wn = wr := ⟨_, rfl⟩
          have hLL : (L, b.2) = (looseL m b, b.2) := by rw [← hL, looseL, HU.out.1]
          have HDD := Lib.hid (And.intro (And.intro hF.rl hBB) (And.intro hqq (And.intro hW hW5)))
          have HLL := Lib.hid (And.intro hLL (show asnB (L, b.2) = true by rw [hLL]; exact rest_valid HP.out.1))
          have d0 := box0 hBB.1
          have d1 := box1 hBB.1
          have dl := box_lt hBB.1
          clear hF hBB hqq hW hW5 hL hLL hLk
          go_wp2_with fail
          refine (normIE_any _ _ (L, b.2) _ HDD.out.1.1 HDD.out.2.1.2 HLL.out.2).mono ?_
          rintro e w9 ⟨x1, x2, rfl, ⟨⟨n1, n2⟩, z12⟩, hb9⟩
          obtain ⟨f1, m1, g1, rfl⟩ := n1.forms
          obtain ⟨f2, m2, g2, rfl⟩ := n2.forms
          have HZ12 := Lib.hid z12
          clear z12
          have hR9 := box_keep HDD.out.1.2.2 hb9
          have r0 := box0 hR9
          have r1 := box1 hR9
          have rz := boxz hR9
          have rl := box_lt hR9
          have rr := box_two (.slice f1 m1 g1) (.slice f2 m2 g2) r0 r1
          have hle : w.heap.size ≤ wn.heap.size := HDD.out.2.2.1.size
          have hfin := Lib.hid (And.intro (And.intro ((n1.mono hle).set2 (x := .slice f1 m1 g1) (y := .slice f2 m2 g2) hR9 (by decide)) ((n2.mono hle).set2 (x := .slice f1 m1 g1) (y := .slice f2 m2 g2) hR9 (by decide))) (((bt HDD.out.2.2.1 hb9).setCell (p := ⟨w.heap.size + 1, 0, none⟩) (by simp) (.slice f1 m1 g1)).setCell (p := ⟨w.heap.size + 1, 1, none⟩) (by simp) (.slice f2 m2 g2)))
          clear hR9 n1 n2 hb9 d0 d1 dl hle
          go_wp2
          refine bodyPost_ret (v := .agg #[.slice f1 m1 g1, .slice f2 m2 g2]) (by simp [results, Try.results45, go_sem, rr.1, rr.2]) rfl ?_
          have hres : tidyB m a = nfB (L, b.2) := by rw [tidyB, tidyE, ← HBB.out, ← HLL.out.1]
          exact ⟨_, _, rfl, by rw [hres]; exact ⟨hfin.out.1, HZ12.out⟩, hfin.out.2⟩
end Go.Proofs.Ytdjfdopgjlbloaa

/- Walks: which programs are valid (the program's countValid, ProgramValid). -/
import Derived.Test.YtgfnoinkajfndaaGreatAValI
import Derived.Test.YtgfnoinkajfndaaGreatAOf
import Derived.Handy
import Derived.Deep.DeepMust
import Derived.Deep.Cut
import Derived.Deep.CutBlock
import Derived.Deep.CutRange
set_option linter.unusedVariables false
set_option linter.unusedSimpArgs false
namespace Go.Proofs.YtgfnoinkajfndaaGreat
open Go.RowKit

/-- The commands in the blocks of the first k commands. -/
def inC {d : Nat} (l : List (Cm (d + 1))) (k : Nat) : Nat := ((l.take k).map fun c => szC d (Cm.body c) + szC d (Cm.els c)).sum
theorem inC_step {d : Nat} {l : List (Cm (d + 1))} {k : Nat} (h : k < l.length) : inC l (k + 1) = inC l k + (szC d (gd l k).body + szC d (gd l k).els) := by
  rw [inC, take_gd h, List.map_append, List.sum_append, inC]; simp
theorem inC_all {d : Nat} (l : List (Cm (d + 1))) : szC (d + 1) l = l.length + inC l l.length := by
  rw [inC, List.take_length]
  induction l with
  | nil => rfl
  | cons c r ih => rw [sz_one, ih]; simp only [List.map_cons, List.sum_cons, List.length_cons]; omega
theorem inC_mono {d : Nat} {l : List (Cm (d + 1))} : ∀ {k m : Nat}, k ≤ m → m ≤ l.length → inC l k ≤ inC l m
  | k, 0, h, _ => by rw [Nat.le_zero.1 h]; exact Nat.le_refl _
  | k, m + 1, h, hm => by
    rcases Nat.lt_or_ge k (m + 1) with h1 | h1
    · rw [inC_step (show m < l.length by omega)]
      have := inC_mono (l := l) (show k ≤ m by omega) (by omega)
      omega
    · rw [show k = m + 1 by omega]; exact Nat.le_refl _
theorem inC_le {d : Nat} {l : List (Cm (d + 1))} {k : Nat} (h : k < l.length) : l.length + inC l k + (szC d (gd l k).body + szC d (gd l k).els) ≤ szC (d + 1) l := by
  rw [inC_all]
  have := inC_mono (l := l) (k := k + 1) (m := l.length) (by omega) (Nat.le_refl _)
  rw [inC_step h] at this
  omega
/-- What counting says. -/
def cntB (d : Nat) (l : List (Cm d)) (N : Int) (M : Nat) : Bool := shpB d l (5 - N) && decide (szC d l ≤ M)
def cntN (d : Nat) (l : List (Cm d)) (N : Int) (M : Nat) : Nat := if cntB d l N M = true then szC d l else 0
theorem cntN_yes {d : Nat} {l : List (Cm d)} {N : Int} {M : Nat} (h : cntB d l N M = true) : cntN d l N M = szC d l := if_pos h
theorem cntN_no {d : Nat} {l : List (Cm d)} {N : Int} {M : Nat} (h : cntB d l N M = false) : cntN d l N M = 0 := if_neg (by rw [h]; decide)
theorem two_at0 (x y : Value) (w : World) : Sem.run Tryz.prog (Instr.index 174 (.agg #[x, y]) (.int .i64 0)) w = .ok x w := by kernel_rfl
theorem two_at1 (x y : Value) (w : World) : Sem.run Tryz.prog (Instr.index 174 (.agg #[x, y]) (.int .i64 1)) w = .ok y w := by kernel_rfl
attribute [local go_sem] two_at0 two_at1
set_option maxRecDepth 100000 in
set_option maxHeartbeats 12800000 in
theorem countI_any : ∀ (d : Nat) {S : Nat → Prop} (v : Value) (l : List (Cm d)) (N : Int) (M : Nat) (w : World) (_h : RL w S v l) (_hN : 1 ≤ N ∧ N ≤ 1000) (_hd : N + d ≤ 1000) (_hM : M ≤ 1000000),
    Calls Tryz.prog 104 #[v, .int .i64 N, .int .i64 (M : Int)] w fun e w' => e = .returned (.tuple #[.int .i64 (cntN d l N M : Nat), .bool (cntB d l N M)]) ∧ Below w.heap.size w w' := by
  intro d
  induction d with
  | zero =>
    intro S v l N M w h hN hd hM
    obtain rfl := h.cm0
    obtain ⟨a, c, rfl⟩ := h.form
    clear h
    go_enter Tryz.func104, Tryz.ntmps104
    go_wp2
    go_loopg [8, 32] 1 (fun q n i wr => n = .int .i64 0 ∧ i = .int .i64 0 ∧ wr = w)
    case atStart => exact ⟨rfl, rfl, rfl⟩
    case round =>
      obtain ⟨rfl, rfl, rfl⟩ := hrel
      go_wp2
      refine bodyPost_ret (v := .tuple #[.int .i64 0, .bool true]) (by simp [results, Tryz.results104, go_sem]) rfl ?_
      exact ⟨rfl, Bl⟩
  | succ d ih =>
    intro S v l N M w h hN hd hM
    obtain ⟨a, cap, rfl, _, _, hc⟩ := h.cmAt
    have hlm := h.len
    unfold maxLen at hlm
    have F := Lib.hid hc
    have IH := Lib.hid (fun (S : Nat → Prop) (v : Value) (l : List (Cm d)) (N : Int) (M : Nat) (w : World) (h : RL w S v l) (hN : 1 ≤ N ∧ N ≤ 1000) (hd : N + d ≤ 1000) (hM : M ≤ 1000000) => ih (S := S) v l N M w h hN hd hM)
    have N1 := hN.1
    have N2 := hN.2
    have HD := Lib.hid (And.intro hd hM)
    have hdN : N + 1 ≤ 1000 := by omega
    obtain ⟨T, hT⟩ : ∃ b, cntB (d + 1) l N M = b := ⟨_, rfl⟩
    obtain ⟨Tn, hTn⟩ : ∃ n, cntN (d + 1) l N M = n := ⟨_, rfl⟩
    have HT := Lib.hid (And.intro hT hTn)
    rw [hT, hTn]
    have hsl := inC_all l
    have HSL := Lib.hid hsl
    have NO := Lib.hid (fun (h : cntB (d + 1) l N M = false) => (show T = false ∧ Tn = 0 from ⟨by rw [← hT, h], by rw [← hTn, cntN_no h]⟩))
    clear h hc ih hN hd hsl hT hTn
    by_cases h1 : l.length ≤ M
    · by_cases h2 : N ≤ 4 ∨ l.length = 0
      · by_cases h0 : l.length = 0
        · have HX := Lib.hid (show T = true ∧ Tn = 0 by
            have hl := List.eq_nil_of_length_eq_zero h0
            have h1 : cntB (d + 1) l N M = true := by subst hl; rw [cntB, sz_nil]; simp [shpB]
            exact ⟨by rw [← HT.out.1, h1], by rw [← HT.out.2, cntN_yes h1, hl, sz_nil]⟩)
          clear h2
          go_enter Tryz.func104, Tryz.ntmps104
          go_wp2
          go_loopg [8, 32] 1 (fun q n i wr => n = .int .i64 0 ∧ i = .int .i64 0 ∧ wr = w)
          case atStart => exact ⟨rfl, rfl, rfl⟩
          case round =>
            obtain ⟨rfl, rfl, rfl⟩ := hrel
            go_wp2
            refine bodyPost_ret (v := .tuple #[.int .i64 0, .bool true]) (by simp [results, Tryz.results104, go_sem]) rfl ?_
            exact ⟨by rw [HX.out.1, HX.out.2]; rfl, Bl⟩
        · have hN4 : N ≤ 4 := h2.elim id (fun e => absurd e h0)
          have i1 : ¬ (M : Int) < (l.length : Int) := by omega
          have i2 : ¬ (4 : Int) < N := by omega
          have i3 : 0 < l.length := by omega
          have HN4 := Lib.hid hN4
          clear h2 h0
          go_enter Tryz.func104, Tryz.ntmps104
          go_wp2
          go_loopg [8, 32] l.length (fun q ct i wr => ∃ k n : Nat, k + q = l.length ∧ i = .int .i64 (k : Int) ∧ ct = .int .i64 (n : Int) ∧ n = l.length + inC l k ∧ n ≤ M ∧ (∀ j, j < k → (headOk (gd l j) = true ∧ shpB d (gd l j).body (5 - N - 1) = true ∧ shpB d (gd l j).els (5 - N - 1) = true)) ∧ Below w.heap.size w wr)
          case atStart => exact ⟨0, l.length, by omega, rfl, rfl, rfl, h1, fun j hj => absurd hj (Nat.not_lt_zero j), Bl⟩
          case round =>
            obtain ⟨k, n, hk, rfl, rfl, hn, hnM, hall, hb⟩ := hrel
            have HK := Lib.hid (And.intro hk hn)
            have HALL := Lib.hid hall
            have hs := hb.size
            clear hk hn hall
            by_cases hk8 : k < l.length
            · obtain ⟨b, o, f1, f2, x, y, rfl, _, hbl, hcc, ⟨g1, g2⟩, g3, g4⟩ := F.out k hk8
              obtain ⟨fa1, fn1, rfl⟩ := g1.form
              obtain ⟨fa2, fn2, rfl⟩ := g2.form
              obtain ⟨xa, xn, rfl⟩ := g3.form
              obtain ⟨ya, yn, rfl⟩ := g4.form
              have lb := g3.len
              have le := g4.len
              obtain ⟨c, hck⟩ : ∃ c, gd l k = c := ⟨_, rfl⟩
              have hle := inC_le hk8
              have hst := inC_step hk8
              rw [hck] at hcc g1 g2 g3 g4 lb le hle hst
              have BAD := Lib.hid (fun (h : (headOk c && (shpB d c.body (5 - N - 1) && shpB d c.els (5 - N - 1))) = false) => NO.out (by rw [cntB, shape_bad (D := 5 - N) hk8 (by rw [hck]; exact h), Bool.false_and]))
              have BIG := Lib.hid (fun (h : ¬ szC (d + 1) l ≤ M) => NO.out (by rw [cntB, decide_eq_false h, Bool.and_false]))
              have HLE := Lib.hid (And.intro hle hst)
              have hcc' : ∀ j u, (cmCells c.kind c.a c.b c.test (.slice fa1 c.inv.1.length fn1) (.slice fa2 c.inv.2.length fn2) (.slice xa c.body.length xn) (.slice ya c.els.length yn))[j]? = some u → wr.cell? ⟨b, o + k * 10 + j, none⟩ = some u := fun j u hj => cell_keep hb (hcc j u hj)
              have c0 : wr.cell? ⟨b, o + k * 10, none⟩ = some (.int .i64 c.kind) := hcc' 0 _ rfl
              have c1 := hcc' 1 _ rfl
              have c2 := hcc' 2 _ rfl
              have c3 := hcc' 3 _ rfl
              have c4 := hcc' 4 _ rfl
              have c5 := hcc' 5 _ rfl
              have c6 := hcc' 6 _ rfl
              have c7 := hcc' 7 _ rfl
              have c8 := hcc' 8 _ rfl
              have c9 := hcc' 9 _ rfl
              have hbA := below_alloc wr (.cells #[.int .i64 c.kind, .int .i64 c.a, .int .i64 c.b, .bool c.test.1, .int .i64 c.test.2.1, .int .i64 c.test.2.2, .slice fa1 c.inv.1.length fn1, .slice fa2 c.inv.2.length fn2, .slice xa c.body.length xn, .slice ya c.els.length yn] 77)
              have hC := heap_alloc_new wr (.cells #[.int .i64 c.kind, .int .i64 c.a, .int .i64 c.b, .bool c.test.1, .int .i64 c.test.2.1, .int .i64 c.test.2.2, .slice fa1 c.inv.1.length fn1, .slice fa2 c.inv.2.length fn2, .slice xa c.body.length xn, .slice ya c.els.length yn] 77)
              have j1 : (k : Int) < (l.length : Int) := by omega
              have hzb : b < wr.heap.size := by omega
              have HC := Lib.hid (And.intro hC hbA)
              have HG := Lib.hid (And.intro (And.intro ((g1.keep hb).keep hbA) ((g2.keep hb).keep hbA)) (And.intro ((g3.keep hb).keep hbA) ((g4.keep hb).keep hbA)))
              have HCK := Lib.hid hck
              clear hcc hcc' hck g1 g2 g3 g4 hC hbA hle hst
              go_wp2_with fail
              refine (fieldsI_any c _ _ _ _ _ HG.out.1.1 HG.out.1.2 ⟨_, _, rfl⟩ ⟨_, _, rfl⟩ lb le).mono ?_
              rintro e w2 ⟨rfl, hb2⟩
              have hC2 := box_keep HC.out.1 hb2
              have q8 := cell_of_row _ _ 8 _ _ _ hC2
              have q9 := cell_of_row _ _ 9 _ _ _ hC2
              have hCz := box_lt hC2
              have HG2 := Lib.hid (And.intro (HG.out.2.1.keep hb2) (HG.out.2.2.keep hb2))
              have HB2 := Lib.hid (hb.trans ((bt HC.out.2 hb2).mono hs))
              have hs2 := HB2.out.size
              clear hC2 hb2 c0 c1 c2 c3 c4 c5 c6 c7 c8 c9
              cases eh : headOk c
              · have HE := Lib.hid (BAD.out (by rw [eh]; rfl))
                go_wp2
                refine bodyPost_ret (v := .tuple #[.int .i64 0, .bool false]) (by simp [results, Tryz.results104, go_sem]) rfl ?_
                exact ⟨by rw [HE.out.1, HE.out.2]; rfl, HB2.out⟩
              · have HEH := Lib.hid eh
                obtain ⟨gO, hgO⟩ : ∃ g, g = gk := ⟨_, rfl⟩
                have HGO := Lib.hid hgO
                clear hgO
                go_wp2
                go_loopg [8, 44] 2 (fun q ct ix wv => ∃ (j m : Nat), j + q = 2 ∧ ix = .int .i64 (j : Int) ∧ ct = .int .i64 (m : Int) ∧ m ≤ M ∧ ((j = 0 ∧ m = n) ∨ (j = 1 ∧ m = n + szC d c.body ∧ shpB d c.body (5 - N - 1) = true) ∨ (j = 2 ∧ m = n + szC d c.body + szC d c.els ∧ shpB d c.body (5 - N - 1) = true ∧ shpB d c.els (5 - N - 1) = true)) ∧ Below w2.heap.size w2 wv)
                case atStart => exact ⟨0, n, by omega, rfl, rfl, hnM, .inl ⟨rfl, rfl⟩, Below.refl _ _⟩
                case round =>
                  obtain ⟨j, m, hj, rfl, rfl, hmM, hjj, hbv⟩ := hrel
                  have HMM := Lib.hid hmM
                  have hmw : (M : Int) - (m : Int) = ((M - m : Nat) : Int) := by omega
                  have hM6 := HD.out.2
                  have hsv := hbv.size
                  rcases hjj with ⟨rfl, hm⟩ | ⟨rfl, hm, sb⟩ | ⟨rfl, hm, sb, se⟩
                  · have HMN := Lib.hid (And.intro hm hj)
                    clear hm hj
                    go_wp2_with fail
                    refine (IH.out S _ c.body (N + 1) (M - m) _ (HG2.out.1.keep hbv) (by omega) (by have := HD.out.1; omega) (by omega)).mono ?_
                    rintro e w3 ⟨rfl, hb3⟩
                    obtain ⟨B1, hB1⟩ : ∃ b, cntB d c.body (N + 1) (M - m) = b := ⟨_, rfl⟩
                    obtain ⟨n1, hn1⟩ : ∃ n, cntN d c.body (N + 1) (M - m) = n := ⟨_, rfl⟩
                    rw [hB1, hn1]
                    have HB3 := Lib.hid (hbv.trans (hb3.mono hsv))
                    cases B1
                    · have HE := Lib.hid (show T = false ∧ Tn = 0 by
                        rw [cntB, show 5 - (N + 1) = 5 - N - 1 by omega] at hB1
                        cases h : shpB d c.body (5 - N - 1) with
                        | false => exact BAD.out (by rw [HEH.out, h, Bool.false_and]; rfl)
                        | true =>
                          rw [h, Bool.true_and, decide_eq_false_iff_not] at hB1
                          refine BIG.out ?_
                          have h1 := HLE.out.1
                          have h2 := HK.out.2
                          have h3 := HMN.out.1
                          omega)
                      clear hB1 hn1 hb3
                      go_wp2
                      refine bodyPost_ret (v := .tuple #[.int .i64 0, .bool false]) (by simp [results, Tryz.results104, go_sem]) rfl ?_
                      exact ⟨by rw [HE.out.1, HE.out.2]; rfl, HB2.out.trans (HB3.out.mono hs2)⟩
                    · have H1 := Lib.hid (show shpB d c.body (5 - N - 1) = true ∧ n1 = szC d c.body ∧ szC d c.body ≤ M - m by
                        have h1 := cntN_yes hB1
                        rw [hn1] at h1
                        rw [cntB, show 5 - (N + 1) = 5 - N - 1 by omega, Bool.and_eq_true, decide_eq_true_eq] at hB1
                        exact ⟨hB1.1, h1, hB1.2⟩)
                      have hn1M : n1 ≤ M - m := by rw [H1.out.2.1]; exact H1.out.2.2
                      clear hB1 hn1 hb3
                      go_wp2
                      go_roundg (gk - 1)
                      case rel => exact ⟨1, m + n1, by have := HMN.out.2; omega, rfl, by go_num, by omega, by rw [H1.out.2.1]; exact .inr (.inl ⟨rfl, by rw [HMN.out.1], H1.out.1⟩), HB3.out⟩
                      case measure => have := HMN.out.2; omega
                  · have HMN := Lib.hid (And.intro hm (And.intro sb hj))
                    clear hm hj sb
                    go_wp2_with fail
                    refine (IH.out S _ c.els (N + 1) (M - m) _ (HG2.out.2.keep hbv) (by omega) (by have := HD.out.1; omega) (by omega)).mono ?_
                    rintro e w3 ⟨rfl, hb3⟩
                    obtain ⟨B1, hB1⟩ : ∃ b, cntB d c.els (N + 1) (M - m) = b := ⟨_, rfl⟩
                    obtain ⟨n1, hn1⟩ : ∃ n, cntN d c.els (N + 1) (M - m) = n := ⟨_, rfl⟩
                    rw [hB1, hn1]
                    have HB3 := Lib.hid (hbv.trans (hb3.mono hsv))
                    cases B1
                    · have HE := Lib.hid (show T = false ∧ Tn = 0 by
                        rw [cntB, show 5 - (N + 1) = 5 - N - 1 by omega] at hB1
                        cases h : shpB d c.els (5 - N - 1) with
                        | false => exact BAD.out (by rw [HEH.out, h, Bool.and_false]; rfl)
                        | true =>
                          rw [h, Bool.true_and, decide_eq_false_iff_not] at hB1
                          refine BIG.out ?_
                          have h1 := HLE.out.1
                          have h2 := HK.out.2
                          have h3 := HMN.out.1
                          omega)
                      clear hB1 hn1 hb3
                      go_wp2
                      refine bodyPost_ret (v := .tuple #[.int .i64 0, .bool false]) (by simp [results, Tryz.results104, go_sem]) rfl ?_
                      exact ⟨by rw [HE.out.1, HE.out.2]; rfl, HB2.out.trans (HB3.out.mono hs2)⟩
                    · have H1 := Lib.hid (show shpB d c.els (5 - N - 1) = true ∧ n1 = szC d c.els ∧ szC d c.els ≤ M - m by
                        have h1 := cntN_yes hB1
                        rw [hn1] at h1
                        rw [cntB, show 5 - (N + 1) = 5 - N - 1 by omega, Bool.and_eq_true, decide_eq_true_eq] at hB1
                        exact ⟨hB1.1, h1, hB1.2⟩)
                      have hn1M : n1 ≤ M - m := by rw [H1.out.2.1]; exact H1.out.2.2
                      clear hB1 hn1 hb3
                      go_wp2
                      go_roundg (gk - 1)
                      case rel => exact ⟨2, m + n1, by have := HMN.out.2.2; omega, rfl, by go_num, by omega, by rw [H1.out.2.1]; exact .inr (.inr ⟨rfl, by rw [HMN.out.1], HMN.out.2.1, H1.out.1⟩), HB3.out⟩
                      case measure => have := HMN.out.2.2; omega
                  · have HMN := Lib.hid (And.intro (And.intro hm hj) (And.intro sb se))
                    clear hm hj sb se
                    go_wp2
                    go_roundg (gO - 1)
                    case rel => exact ⟨k + 1, m, by have := HK.out.1; have := HGO.out; omega, by go_num, rfl, by have h1 := HMN.out.1.1; have h2 := HK.out.2; have h3 := HLE.out.2; omega, HMM.out, fun j hj => by
                      by_cases e : j = k
                      · rw [e, HCK.out]; exact ⟨HEH.out, HMN.out.2.1, HMN.out.2.2⟩
                      · exact HALL.out j (by omega), HB2.out.trans (hbv.mono hs2)⟩
                    case measure => have := HK.out.1; have := HGO.out; omega
            · have hkn : k = l.length := by have := HK.out.1; omega
              have HX := Lib.hid (show T = true ∧ Tn = n by
                have hz : szC (d + 1) l = n := by rw [HSL.out, HK.out.2, hkn]
                have hsh : shpB (d + 1) l (5 - N) = true := by
                  rw [shpB, decide_eq_true (show 1 ≤ 5 - N by have := HN4.out; omega), List.all_eq_true.2 fun c hc => ?_]
                  · rfl
                  · obtain ⟨i, hi, rfl⟩ := List.getElem_of_mem hc
                    have := HALL.out i (by omega)
                    rw [gd_of hi] at this
                    rw [this.1, this.2.1, this.2.2]; rfl
                have h1 : cntB (d + 1) l N M = true := by rw [cntB, hsh, decide_eq_true (show szC (d + 1) l ≤ M by rw [hz]; exact hnM)]; rfl
                exact ⟨by rw [← HT.out.1, h1], by rw [← HT.out.2, cntN_yes h1, hz]⟩)
              have j1 : ¬ (k : Int) < (l.length : Int) := by omega
              clear hkn
              go_wp2
              refine bodyPost_ret (v := .tuple #[.int .i64 (n : Int), .bool true]) (by simp [results, Tryz.results104, go_sem]) rfl ?_
              exact ⟨by rw [HX.out.1, HX.out.2], hb⟩
      · have HX := Lib.hid (NO.out (by rw [cntB, shpB, decide_eq_false (show ¬ 1 ≤ 5 - N by omega), decide_eq_false (show ¬ l.length = 0 from fun e => h2 (.inr e))]; rfl))
        have i1 : ¬ (M : Int) < (l.length : Int) := by omega
        have i2 : (4 : Int) < N := by omega
        have i3 : 0 < l.length := by omega
        clear h2
        go_enter Tryz.func104, Tryz.ntmps104
        go_wp2
        refine bodyPost_ret (v := .tuple #[.int .i64 0, .bool false]) (by simp [results, Tryz.results104, go_sem]) rfl ?_
        exact ⟨by rw [HX.out.1, HX.out.2]; rfl, Bl⟩
    · have HX := Lib.hid (NO.out (by rw [cntB, decide_eq_false (show ¬ szC (d + 1) l ≤ M by have := HSL.out; omega), Bool.and_false]))
      have i1 : (M : Int) < (l.length : Int) := by omega
      go_enter Tryz.func104, Tryz.ntmps104
      go_wp2
      refine bodyPost_ret (v := .tuple #[.int .i64 0, .bool false]) (by simp [results, Tryz.results104, go_sem]) rfl ?_
      exact ⟨by rw [HX.out.1, HX.out.2]; rfl, Bl⟩
set_option maxRecDepth 100000 in
set_option maxHeartbeats 1600000 in
theorem progValidI_any (d : Nat) {S : Nat → Prop} (v : Value) (l : List (Cm d)) (w : World) (h : RL w S v l) (hd : d ≤ 100) :
    Calls Tryz.prog 67 #[v] w fun e w' => e = .returned (.bool (progOkB l)) ∧ Below w.heap.size w w' := by
  obtain ⟨a, cap, rfl⟩ := h.form
  have HR := Lib.hid h
  clear h
  go_enter Tryz.func67, Tryz.ntmps67
  go_wp2_with fail
  refine (countI_any d _ l 1 16 _ HR.out (by decide) (by omega) (by decide)).mono ?_
  rintro e w2 ⟨rfl, hb⟩
  have HX := Lib.hid (show cntB d l 1 16 = progOkB l by
    rw [cntB, progOkB]
    show (shpB d l 4 && _) = _
    cases h : shpB d l 4 with
    | false => rfl
    | true => rw [shape_count d l 4 h])
  go_wp2
  go_ret
  exact ⟨by rw [HX.out]; rfl, hb⟩
end Go.Proofs.YtgfnoinkajfndaaGreat

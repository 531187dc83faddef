/- Walks: an assertion that another one often entails (the reference's l6Weak). -/
import Derived.Test.YtapoillhgimdiaaWeakD
import Derived.Test.YtapoillhgimdiaaFold
import Derived.Deep.Cut
import Derived.Deep.CutRange
import Derived.Deep.RegionLaw
import Derived.Test.YtapoillhgimdiaaHeldD
namespace Go.Proofs.Ytapoillhgimdiaa
open Go.RowKit

set_option linter.unusedSimpArgs false in
set_option maxRecDepth 100000 in
set_option maxHeartbeats 12800000 in
theorem l6Weak_any {S1 S2 : Nat → Prop} (g q : Nat) (v1 v2 : Value) (a : Asn) (w : World) (hr : Rdr w g q) (hq : q ≤ 800000) (h1 : RL w S1 v1 a.1) (h2 : RL w S2 v2 a.2) (hs : a.1.length ≤ 1000 ∧ a.2.length ≤ 1000) :
    Calls Try.prog 126 #[.pointer (some ⟨g, 0, none⟩), .agg #[v1, v2]] w fun e w' => ∃ (x1 x2 : Value) (b : Asn), e = .returned (.agg #[x1, x2]) ∧ (b.1.length ≤ 1000 ∧ b.2.length ≤ 1000) ∧ RL w' (fun k => w.heap.size ≤ k) x1 b.1 ∧ RL w' (fun k => w.heap.size ≤ k) x2 b.2 ∧ Rdr w' g (q + 5) ∧ Fr (fun j => j = g) w w' := by
  have hgl := hr.lt
  obtain ⟨p1, c1, rfl⟩ := h1.form
  obtain ⟨p2, c2, rfl⟩ := h2.form
  have HS := Lib.hid (And.intro (show asSz a from ⟨by omega, by omega⟩) hs)
  clear hs
  go_enter Try.func126, Try.ntmps126
  go_wp2_with fail
  refine (l3CopyF_any _ _ a _ ((h1.alloc _).alloc _) ((h2.alloc _).alloc _) HS.out.1).mono ?_
  rintro e w5 ⟨x1, x2, rfl, o1, o2, hb⟩
  obtain ⟨d1, k1, rfl⟩ := o1.form
  obtain ⟨d2, k2, rfl⟩ := o2.form
  have hA := box_keep (heap_alloc_new (w.alloc (.cells #[.slice p1 a.1.length c1, .slice p2 a.2.length c2] 33)) (.cells #[.slice none 0 0, .slice none 0 0] 33)) hb
  rw [World.size_alloc] at hA
  have hz5 : w.heap.size + 2 ≤ w5.heap.size := by have := hb.size; simp at this; omega
  have D0 : DW w (w5.alloc (.cells #[.slice d1 a.1.length k1, .slice d2 a.2.length k2] 33)) g q (w.heap.size + 1) w5.heap.size (.slice d1 a.1.length k1) (.slice d2 a.2.length k2) a.1 a.2 :=
    ⟨((o1.mono (by simp; omega)).keep (below_alloc _ _)).ft, (o2.mono (by simp; omega)).keep (below_alloc _ _), box_keep hA (below_alloc _ _), heap_alloc_new w5 _,
      hr.keep (bt (bt (bt (below_alloc _ _) (below_alloc _ _)) hb) (below_alloc _ _)), (Below.fr (bt (bt (bt (below_alloc _ _) (below_alloc _ _)) hb) (below_alloc _ _))).mono fun _ _ h => h.elim⟩
  clear hr h1 h2 o1 o2 hb hA
  go_wp2_with fail
  refine (pick_any g q _ _ D0.rdr (by omega) (by decide) (by decide)).mono ?_
  rintro e w6 ⟨m, rfl, hm, hr6, hf6⟩
  have D := D0.drawn hr6 hf6 hgl (by omega) (by omega)
  obtain ⟨bA, hbA⟩ : ∃ b, w5.heap.size = b := ⟨_, rfl⟩
  rw [hbA] at D hz5 ⊢
  have HM := Lib.hid hm
  have HD := Lib.hid D
  clear D0 hr6 hf6 hbA hm D
  go_wp2
  go_loopg [6, 7, 8] m (fun k i p ok wr => ∃ (y1 y2 : Value) (b : Asn), i = .int .i64 (k : Nat) ∧ k ≤ 2 ∧ (b.1.length ≤ 1000 ∧ b.2.length ≤ 1000) ∧ DW w wr g (q + 1) (w.heap.size + 1) bA y1 y2 b.1 b.2)
  case atStart => exact ⟨_, _, a, rfl, by have := HM.out; omega, HS.out.2, HD.out⟩
  case round =>
    clear HD HM
    obtain ⟨y1, y2, b, rfl, hk2, hbl, D⟩ := hrel
    obtain ⟨ya1, yc1, rfl⟩ := D.f.rl.form
    obtain ⟨ya2, yc2, rfl⟩ := D.a.form
    have HBL := Lib.hid hbl
    have c0 := box0 D.boxA
    have c1' := box1 D.boxA
    have cl := box_lt D.boxA
    clear hbl
    by_cases hk0 : 0 < gk
    · have hki : (0 : Int) < (gk : Int) := by omega
      have HD := Lib.hid D
      have r1 := D.f.rl
      have r2 := D.a.rl
      clear D
      go_wp2_with fail
      refine (foldCellsS_any _ _ b _ r1 r2).mono ?_
      rintro e w7 ⟨z1, z2, b2, ok, rfl, hval, t1, t2, hb7⟩
      obtain ⟨za1, zc1, rfl⟩ := t1.form
      obtain ⟨za2, zc2, rfl⟩ := t2.form
      have D7 := (HD.out.keep hb7).keep (below_alloc w7 (.cells #[.slice za1 b2.1.length zc1, .slice za2 b2.2.length zc2] 33))
      have hzw := HD.out.fr.size
      cases ok with
      | false =>
        have HD7 := Lib.hid D7
        clear D7 t1 t2 hb7 r1 r2 c0 c1'
        go_wp2
        go_roundg (gk - 1)
        case rel => exact ⟨_, _, b, by go_num, by omega, HBL.out, HD7.out⟩
        case measure => omega
      | true =>
        have hlen := asn_len2 hval
        have d0 := box0 D7.boxA
        have d1' := box1 D7.boxA
        have dz := boxz D7.boxA
        have dl := box_lt D7.boxA
        have D8 := D7.put hgl (by omega) (by omega) ((t1.mono (by omega)).keep (below_alloc w7 (.cells #[.slice za1 b2.1.length zc1, .slice za2 b2.2.length zc2] 33))) ((t2.mono (by omega)).keep (below_alloc w7 (.cells #[.slice za1 b2.1.length zc1, .slice za2 b2.2.length zc2] 33)))
        have HD8 := Lib.hid (And.intro D8 hlen)
        clear D7 D8 t1 t2 hb7 r1 r2 c0 c1' hval hlen
        go_wp2
        go_roundg (gk - 1)
        case rel => exact ⟨_, _, b2, by go_num, by omega, by have := HD8.out.2; omega, HD8.out.1⟩
        case measure => omega
    · obtain rfl : gk = 0 := by omega
      have HD := Lib.hid D
      clear hk2 hk0 D
      go_upto_region 8 with fail
      go_cut [33] from 10 (fun c wc => ∃ cb : Bool, c = .bool cb ∧ (cb = true → 0 < b.1.length) ∧ DW w wc g (q + 2) (w.heap.size + 1) bA (.slice ya1 b.1.length yc1) (.slice ya2 b.2.length yc2) b.1 b.2)
      case first =>
        by_cases hl : 0 < b.1.length
        · have hli : (0 : Int) < (b.1.length : Int) := by omega
          go_wp2_with fail
          refine (pick_any g (q + 1) _ _ HD.out.rdr (by omega) (by decide) (by decide)).mono ?_
          rintro e w9 ⟨k, rfl, hk, hr9, hf9⟩
          have HD9 := Lib.hid (HD.out.drawn hr9 hf9 hgl (by omega) (by omega))
          have HLL := Lib.hid hl
          clear hk hr9 hf9 hl
          go_wp2
          go_meet
          case rel => exact ⟨_, rfl, fun _ => HLL.out, HD9.out⟩
        · have hli : ¬ (0 : Int) < (b.1.length : Int) := by omega
          clear hl
          go_wp2
          go_meet
          case rel => exact ⟨false, rfl, fun h => (by cases h), HD.out.more (by omega)⟩
      case rest =>
        clear c0 c1' cl HD
        obtain ⟨cb, rfl, hcb, D⟩ := hcut
        have HD := Lib.hid (And.intro hcb D)
        clear hcb D
        go_upto_if 33 with fail
        go_cut [] from 10 (fun wc => ∃ (y1 : Value) (l1 : List Fact), l1.length ≤ 1000 ∧ DW w wc g (q + 2) (w.heap.size + 1) bA y1 (.slice ya2 b.2.length yc2) l1 b.2)
        case first =>
          cases cb with
          | false =>
            go_wp2
            go_meet
            case rel => exact ⟨_, _, HBL.out.1, HD.out.2⟩
          | true =>
            have hl := HD.out.1 rfl
            have c0 := box0 HD.out.2.boxA
            have cz := boxz HD.out.2.boxA 0
            have cl := box_lt HD.out.2.boxA
            have hf := HD.out.2.f
            obtain ⟨B1, B2⟩ := b
            simp only at hl hf c0 cz
            cases B1 with
            | nil => simp at hl
            | cons x r =>
              rcases hf with ⟨_, _, _, h, _⟩ | ⟨gb, ob, cc, he, h1, h2, h3, h4⟩
              · cases h
              · injection he with e1 e2 e3
                subst e1; subst e3
                have hmm : yc1 ≤ maxLen := h2
                unfold maxLen at hmm
                have hlr : r.length + 1 ≤ yc1 := by simpa using h1
                have hln : r.length + 1 ≤ 1000 := by have := HBL.out.1; simpa using this
                clear h1 h2 h3 h4 hl
                rw [List.length_cons] at c0
                by_cases hy1 : yc1 = 1
                · subst hy1
                  obtain rfl : r = [] := List.eq_nil_of_length_eq_zero (by omega)
                  have hz0 := HD.out.2.fr.size
                  have HN := Lib.hid (HD.out.2.facts hgl (by omega) (by omega) (show FT wc w.heap.size (.slice (some ⟨gb, ob, none⟩) 0 0) ([] : List Fact) from RL.empty0 _ _ _ _ (by unfold maxLen; omega)))
                  go_wp2
                  go_meet
                  case rel => exact ⟨_, [], by simp, HN.out⟩
                · have hy2 : 1 < yc1 := by omega
                  have ht := RL.tail (show RL wc _ (.slice (some ⟨gb, ob, none⟩) (x :: r).length yc1) (x :: r) from HD.out.2.f)
                  rw [List.length_cons, Nat.add_sub_cancel] at ht
                  have hz0 := HD.out.2.fr.size
                  have HN := Lib.hid (HD.out.2.facts hgl (by omega) (by omega) ht)
                  clear ht
                  go_wp2
                  go_meet
                  case rel => exact ⟨_, r, by omega, HN.out⟩
        case rest =>
          clear HD
          obtain ⟨y1, l1, hl1, D⟩ := hcut
          obtain ⟨yb1, yd1, rfl⟩ := D.f.rl.form
          have HL1 := Lib.hid hl1
          have HD := Lib.hid D
          have c1' := box1 D.boxA
          have cl := box_lt D.boxA
          clear hl1 D
          go_upto_region 10 with fail
          go_cut [46] from 10 (fun c wc => ∃ cb : Bool, c = .bool cb ∧ (cb = true → 0 < b.2.length) ∧ DW w wc g (q + 3) (w.heap.size + 1) bA (.slice yb1 l1.length yd1) (.slice ya2 b.2.length yc2) l1 b.2)
          case first =>
            by_cases hl : 0 < b.2.length
            · have hli : (0 : Int) < (b.2.length : Int) := by omega
              go_wp2_with fail
              refine (pick_any g (q + 2) _ _ HD.out.rdr (by omega) (by decide) (by decide)).mono ?_
              rintro e w9 ⟨k, rfl, hk, hr9, hf9⟩
              have HD9 := Lib.hid (HD.out.drawn hr9 hf9 hgl (by omega) (by omega))
              have HLL := Lib.hid hl
              clear hk hr9 hf9 hl
              go_wp2
              go_meet
              case rel => exact ⟨_, rfl, fun _ => HLL.out, HD9.out⟩
            · have hli : ¬ (0 : Int) < (b.2.length : Int) := by omega
              clear hl
              go_wp2
              go_meet
              case rel => exact ⟨false, rfl, fun h => (by cases h), HD.out.more (by omega)⟩
          case rest =>
            clear c1' cl HD
            obtain ⟨cb, rfl, hcb, D⟩ := hcut
            have HD := Lib.hid (And.intro hcb D)
            clear hcb D
            go_upto_if 46 with fail
            go_cut [] from 10 (fun wc => ∃ l2 : List Atom, l2.length = b.2.length ∧ DW w wc g (q + 4) (w.heap.size + 1) bA (.slice yb1 l1.length yd1) (.slice ya2 b.2.length yc2) l1 l2)
            case first =>
              cases cb with
              | false =>
                go_wp2
                go_meet
                case rel => exact ⟨_, rfl, HD.out.2.more (by omega)⟩
              | true =>
                have hl := HD.out.1 rfl
                have c1' := box1 HD.out.2.boxA
                have cl := box_lt HD.out.2.boxA
                have hli : (1 : Int) ≤ (b.2.length : Int) := by omega
                have hlm : (b.2.length : Int) ≤ 1000 := by have := HBL.out.2; omega
                go_wp2_with fail
                refine (pick_any g (q + 3) _ _ HD.out.2.rdr (by omega) (by omega) (by omega)).mono ?_
                rintro e w9 ⟨k, rfl, hk, hr9, hf9⟩
                have D9 := HD.out.2.drawn hr9 hf9 hgl (by omega) (by omega)
                replace c1' := box1 D9.boxA
                replace cl := box_lt D9.boxA
                have hkl : k < b.2.length := by omega
                obtain ⟨ga, rfl⟩ : ∃ ga, ya2 = some ⟨ga, 0, none⟩ := by
                  obtain ⟨xs, h1, _⟩ := D9.a
                  rcases h1 with ⟨h0, _⟩ | h1
                  · omega
                  · obtain ⟨a', cap', e, hh⟩ := row_form h1
                    injection e with e1 e2 e3
                    obtain ⟨gg, e4⟩ := hh 0 (by omega)
                    exact ⟨gg, e1.trans e4⟩
                obtain ⟨_, ⟨u, hu⟩, huz, _⟩ := D9.a.kind hkl 2
                have hul := World.block_lt_of_cell? w9 _ hu
                have HN := Lib.hid (D9.kind hgl hkl 2)
                clear D9 hr9 hf9 hl
                go_wp2
                go_meet
                case rel => exact ⟨_, by simp, HN.out⟩
            case rest =>
              clear HD
              obtain ⟨l2, hl2, D⟩ := hcut
              have HL2 := Lib.hid hl2
              have HD := Lib.hid D
              have c1' := box1 D.boxA
              have cl := box_lt D.boxA
              clear hl2 D
              go_upto_region 13 with fail
              go_cut [65] from 10 (fun c wc => ∃ cb : Bool, c = .bool cb ∧ (cb = true → 1 < b.2.length) ∧ DW w wc g (q + 5) (w.heap.size + 1) bA (.slice yb1 l1.length yd1) (.slice ya2 b.2.length yc2) l1 l2)
              case first =>
                by_cases hl : 1 < b.2.length
                · have hli : (1 : Int) < (b.2.length : Int) := by omega
                  go_wp2_with fail
                  refine (pick_any g (q + 4) _ _ HD.out.rdr (by omega) (by decide) (by decide)).mono ?_
                  rintro e w9 ⟨k, rfl, hk, hr9, hf9⟩
                  have HD9 := Lib.hid (HD.out.drawn hr9 hf9 hgl (by omega) (by omega))
                  have HLL := Lib.hid hl
                  clear hk hr9 hf9 hl
                  go_wp2
                  go_meet
                  case rel => exact ⟨_, rfl, fun _ => HLL.out, HD9.out⟩
                · have hli : ¬ (1 : Int) < (b.2.length : Int) := by omega
                  clear hl
                  go_wp2
                  go_meet
                  case rel => exact ⟨false, rfl, fun h => (by cases h), HD.out.more (by omega)⟩
              case rest =>
                clear c1' cl HD
                obtain ⟨cb, rfl, hcb, D⟩ := hcut
                have HD := Lib.hid (And.intro hcb D)
                clear hcb D
                go_upto_if 65 with fail
                go_cut [] from 10 (fun wc => ∃ (y2 : Value) (l3 : List Atom), l3.length ≤ 1000 ∧ DW w wc g (q + 5) (w.heap.size + 1) bA (.slice yb1 l1.length yd1) y2 l1 l3)
                case first =>
                  cases cb with
                  | false =>
                    go_wp2
                    go_meet
                    case rel => exact ⟨_, _, by have := HL2.out; have := HBL.out.2; omega, HD.out.2⟩
                  | true =>
                    have hl := HD.out.1 rfl
                    have c1' := box1 HD.out.2.boxA
                    have cz := boxz HD.out.2.boxA 1
                    have cl := box_lt HD.out.2.boxA
                    have hn2 := HL2.out
                    have hb2 := HBL.out.2
                    have hlo := HD.out.2.fr.size
                    have ha := HD.out.2.a
                    cases l2 with
                    | nil => simp at hn2; omega
                    | cons X r =>
                      obtain ⟨X1, X2, X3⟩ := X
                      have hbn : b.2.length = r.length + 1 := by rw [← hn2]; rfl
                      rw [hbn] at c1' ha
                      obtain ⟨ga, rfl⟩ : ∃ ga, ya2 = some ⟨ga, 0, none⟩ := by
                        obtain ⟨xs, h1, _⟩ := ha
                        rcases h1 with ⟨h0, _⟩ | h1
                        · simp at h0
                        · obtain ⟨a', cap', e, hh⟩ := row_form h1
                          injection e with e1 e2 e3
                          obtain ⟨gg, e4⟩ := hh 0 (by simp)
                          exact ⟨gg, e1.trans e4⟩
                      have hrl := ha.rl
                      obtain ⟨ra, rc, hre, hcp1, hcp2, hrf⟩ := hrl.atomAt
                      simp only [Value.slice.injEq] at hre
                      obtain ⟨rfl, hx9, rfl⟩ := hre
                      clear hx9
                      obtain ⟨gb, ob, hbe, _, hzb, hp1, hp2, hp3⟩ := hrf 0 (by simp)
                      simp only [Option.some.injEq, Addr.mk.injEq, and_true] at hbe
                      obtain ⟨rfl, rfl⟩ := hbe
                      simp only [Nat.zero_mul, Nat.zero_add, gd_cons0] at hp1 hp2 hp3
                      have ht := RL.tail hrl
                      simp only [List.length_cons, Nat.add_sub_cancel, Nat.zero_add] at ht
                      have ht3 : RL wc (fun k => w.heap.size ≤ k) (.slice (some ⟨ga, 3, none⟩) r.length (yc2 - 1)) r := ht
                      unfold maxLen at hcp2
                      rw [List.length_cons] at hcp1
                      have hr1 : 0 < r.length := by omega
                      have hr2 : r.length + 1 ≤ 1000 := by omega
                      have hI1 : (1 : Int) ≤ (r.length : Int) + 1 := by omega
                      have hy9 : ¬ yc2 = 1 := by omega
                      have hy2 : 1 < yc2 := by omega
                      have HS : ∀ w', Below wc.heap.size wc w' → (w'.cell? ⟨bA, 1, none⟩ = some (.slice (some ⟨ga, 0, none⟩) (r.length + 1) yc2) ∧ w'.cell? ⟨ga, 0, none⟩ = some (.int .i64 X1) ∧ w'.cell? ⟨ga, 1, none⟩ = some (.int .i64 X2) ∧ w'.cell? ⟨ga, 2, none⟩ = some (.int .i64 X3)) := fun w' hb => ⟨cell_keep hb c1', cell_keep hb hp1, cell_keep hb hp2, cell_keep hb hp3⟩
                      have HSH := Lib.hid HS
                      clear HS
                      replace ht := ht3
                      clear ht3 hrf hrl ha hn2 hbn hcp1 hcp2
                      go_wp2
                      refine wp_region_late (S := fun w' => w'.cell? ⟨bA, 1, none⟩ = some (.slice (some ⟨ga, 0, none⟩) (r.length + 1) yc2) ∧ w'.cell? ⟨ga, 0, none⟩ = some (.int .i64 X1) ∧ w'.cell? ⟨ga, 1, none⟩ = some (.int .i64 X2) ∧ w'.cell? ⟨ga, 2, none⟩ = some (.int .i64 X3)) (dep := [12]) (by kernel_rfl) (HSH.out _ (below_drew _)) (fun hHeld => ?_)
                      refine wpAnyD_free (i := 1) (oi := _) (v := ?_) rfl (by kernel_rfl) (by kernel_rfl) (by kernel_rfl) (by kernel_rfl) (fun _ _ _ h => h) (Or.inl ⟨by rfl, ?_⟩) hHeld (fun hHeld => ?_)
                      rotate_left
                      · (intro w _; first | (go_simp; done) | (go_simp; with_reducible rfl))
                      try simp only [Act.put, List.setIfInBounds_toArray, List.set_cons_zero, List.set_cons_succ]
                      refine wpAnyD_free (i := 5) (oi := _) (v := ?_) rfl (by kernel_rfl) (by kernel_rfl) (by kernel_rfl) (by kernel_rfl) (fun _ _ _ h => h) (Or.inl ⟨by rfl, ?_⟩) hHeld (fun hHeld => ?_)
                      rotate_left
                      · (intro w _; first | (go_simp; done) | (go_simp; with_reducible rfl))
                      try simp only [Act.put, List.setIfInBounds_toArray, List.set_cons_zero, List.set_cons_succ]
                      refine wpAnyD_take (i := 2) (oi := _) (v := ?_) rfl (by kernel_rfl) (by kernel_rfl) (by kernel_rfl) (by kernel_rfl) (by kernel_rfl) (fun _ _ _ h => h) (Or.inl ⟨by rfl, ?_⟩) (hHeld (early_of (by kernel_rfl))) ?_
                      rotate_left
                      · (intro w hSw; obtain ⟨s0, s1, s2, s3⟩ := hSw; first | (go_simp; done) | (go_simp; with_reducible rfl))
                      try simp only [Act.put, List.setIfInBounds_toArray, List.set_cons_zero, List.set_cons_succ]
                      replace hHeld := fun (he : Early _ _) => hHeld (Early.of_set (i := 2) he (by decide))
                      refine wpAnyD_free (i := 3) (oi := _) (v := ?_) rfl (by kernel_rfl) (by kernel_rfl) (by kernel_rfl) (by kernel_rfl) (fun _ _ _ h => h) (Or.inl ⟨by rfl, ?_⟩) hHeld (fun hHeld => ?_)
                      rotate_left
                      · (intro w _; first | (go_simp; done) | (go_simp; with_reducible rfl))
                      try simp only [Act.put, List.setIfInBounds_toArray, List.set_cons_zero, List.set_cons_succ]
                      refine wpAnyD_take (i := 6) (oi := _) (v := ?_) rfl (by kernel_rfl) (by kernel_rfl) (by kernel_rfl) (by kernel_rfl) (by kernel_rfl) (fun _ _ _ h => h) (Or.inl ⟨by rfl, ?_⟩) (hHeld (early_of (by kernel_rfl))) ?_
                      rotate_left
                      · (intro w hSw; obtain ⟨s0, s1, s2, s3⟩ := hSw; first | (go_simp; done) | (go_simp; with_reducible rfl))
                      try simp only [Act.put, List.setIfInBounds_toArray, List.set_cons_zero, List.set_cons_succ]
                      replace hHeld := fun (he : Early _ _) => hHeld (Early.of_set (i := 6) he (by decide))
                      refine wpAnyD_free (i := 7) (oi := _) (v := ?_) rfl (by kernel_rfl) (by kernel_rfl) (by kernel_rfl) (by kernel_rfl) (fun _ _ _ h => h) (Or.inl ⟨by rfl, ?_⟩) hHeld (fun hHeld => ?_)
                      rotate_left
                      · (intro w _; first | (go_simp; done) | (go_simp; with_reducible rfl))
                      try simp only [Act.put, List.setIfInBounds_toArray, List.set_cons_zero, List.set_cons_succ]
                      refine wpAnyD_take (i := 8) (oi := _) (v := ?_) rfl (by kernel_rfl) (by kernel_rfl) (by kernel_rfl) (by kernel_rfl) (by kernel_rfl) (fun _ _ _ h => h) (Or.inl ⟨by rfl, ?_⟩) (hHeld (early_of (by kernel_rfl))) ?_
                      rotate_left
                      · (intro w hSw; obtain ⟨s0, s1, s2, s3⟩ := hSw; first | (go_simp; done) | (go_simp; with_reducible rfl))
                      try simp only [Act.put, List.setIfInBounds_toArray, List.set_cons_zero, List.set_cons_succ]
                      replace hHeld := fun (he : Early _ _) => hHeld (Early.of_set (i := 8) he (by decide))
                      refine wpAnyD_ready (rs := [0, 9]) (by kernel_rfl) (by simp) ?_
                      refine (AllReadyD.cons (o := _) rfl (fun K hK => ?_) (AllReadyD.cons (o := _) rfl (fun K hK => ?_) AllReadyD.nil))
                      · clear hHeld
                        go_simp
                        refine hK.out _ _ ?_ (fun hHeld => ?_)
                        · exact fun _ => HSH.out _ Bl
                        clear hK K
                        try simp only [Act.put, List.setIfInBounds_toArray, List.set_cons_zero, List.set_cons_succ]
                        refine wpAnyD_ready (rs := [4, 9]) (by kernel_rfl) (by simp) ?_
                        refine (AllReadyD.cons (o := _) rfl (fun K hK => ?_) (AllReadyD.cons (o := _) rfl (fun K hK => ?_) AllReadyD.nil))
                        · clear hHeld
                          refine step_F (l := ([] : List Atom)) (m := r) (B := wc.heap.size + 1) (by rfl) (.tmp 66) (.tmp 69) _ (by rfl) ti_atom (by rfl) (FE.nil _ _ _) (by rfl) (ht.keep Bl) (by simp; omega) (by first | omega | (simp; omega) | simp) ?_
                          intro v7 w7 o7 hf7
                          rw [List.nil_append] at o7
                          obtain ⟨e7, n7, c7, rfl⟩ := o7.forms
                          have hb7 : Below wc.heap.size wc w7 := Below.trans Bl ((tf_below hf7 (by first | omega | (simp; omega) | simp)).mono (by omega))
                          have hz7 := hb7.size
                          have hz7x := hf7.size
                          simp only [World.size_alloc, World.size_drew] at hz7x
                          have HF7 := Lib.hid hf7
                          clear hf7
                          refine hK.out _ _ ?_ (fun hHeld => ?_)
                          · exact fun _ => HSH.out _ hb7
                          clear hK K
                          try simp only [Act.put, List.setIfInBounds_toArray, List.set_cons_zero, List.set_cons_succ]
                          refine wpAnyD_ready (rs := [9]) (by kernel_rfl) (by simp) ?_
                          refine (AllReadyD.cons (o := _) rfl (fun K hK => ?_) AllReadyD.nil)
                          clear hHeld
                          go_simp
                          refine hK.out _ _ ?_ (fun hHeld => ?_)
                          · exact fun _ => HSH.out _ Bl
                          clear hK K
                          try simp only [Act.put, List.setIfInBounds_toArray, List.set_cons_zero, List.set_cons_succ]
                          refine wpAnyD_ready (rs := [10]) (by kernel_rfl) (by simp) ?_
                          refine (AllReadyD.cons (o := _) rfl (fun K hK => ?_) AllReadyD.nil)
                          clear hHeld
                          refine step_F (l := r) (m := [((X1, X2, X3) : Atom)]) (B := wc.heap.size + 1) (by rfl) (.tmp 70) (.tmp 75) _ (by rfl) ti_atom (by rfl) (o7.keep Bl) (by rfl) (lit_atom _ _ _ _ _) (by simp; omega) (by first | omega | (simp; omega) | simp) ?_
                          intro v8 w8 o8 hf8
                          obtain ⟨e8, n8, c8, rfl⟩ := o8.forms
                          have hb8 : Below wc.heap.size wc w8 := Below.trans (ba hb7 _) ((tf_below hf8 (by first | omega | (simp; omega) | simp)).mono (by omega))
                          have hA8 := box_keep HD.out.2.boxA hb8
                          have u1 := box1 hA8
                          have uz := boxz hA8 1
                          have ul := box_lt hA8
                          clear hf8 hA8
                          refine hK.out _ _ ?_ (fun hHeld => ?_)
                          · exact fun _ => HSH.out _ hb8
                          clear hK K
                          try simp only [Act.put, List.setIfInBounds_toArray, List.set_cons_zero, List.set_cons_succ]
                          refine wpAnyD_free (i := 11) (oi := _) (v := ?_) rfl (by kernel_rfl) (by kernel_rfl) (by kernel_rfl) (by kernel_rfl) (fun _ _ _ h => h) (Or.inl ⟨by rfl, ?_⟩) hHeld (fun hHeld => ?_)
                          rotate_left
                          · (intro w _; first | (go_simp; done) | (go_simp; with_reducible rfl))
                          try simp only [Act.put, List.setIfInBounds_toArray, List.set_cons_zero, List.set_cons_succ]
                          refine wpAnyD_ready (rs := [12]) (by kernel_rfl) (by simp) ?_
                          refine (AllReadyD.cons (o := _) rfl (fun K hK => ?_) AllReadyD.nil)
                          clear hHeld
                          go_simp
                          refine hK.out _ _ ?_ (fun hHeld => ?_)
                          · exact late_none (by kernel_rfl)
                          clear hK K
                          try simp only [Act.put, List.setIfInBounds_toArray, List.set_cons_zero, List.set_cons_succ]
                          refine wpAnyD_done (by kernel_rfl) ?_ _
                          clear hHeld
                          have hz8 := hb8.size
                          have D8 := (HD.out.2.keep hb8).app2 hgl (by omega) (by omega) (o8.mono (by omega)) (Fr.refl _ _)
                          have HN := Lib.hid D8
                          clear D8 o8 hb8
                          go_wp2
                          go_meet
                          case rel => exact ⟨_, _, by simp; omega, HN.out⟩
                        · clear hHeld
                          go_simp
                          refine hK.out _ _ ?_ (fun hHeld => ?_)
                          · exact fun _ => HSH.out _ Bl
                          clear hK K
                          try simp only [Act.put, List.setIfInBounds_toArray, List.set_cons_zero, List.set_cons_succ]
                          refine wpAnyD_ready (rs := [4]) (by kernel_rfl) (by simp) ?_
                          refine (AllReadyD.cons (o := _) rfl (fun K hK => ?_) AllReadyD.nil)
                          clear hHeld
                          have HLT := Lib.hid (show RL (((wc.alloc (.cells #[] 130)).alloc (.cells #[.int .i64 X1, .int .i64 X2, .int .i64 X3] 130)).drew) (fun k => k = wc.heap.size + 1) (.slice (some ⟨wc.heap.size + 1, 0, none⟩) 1 1) [((X1, X2, X3) : Atom)] from by have h := lit_atom (wc.drew.alloc (.cells #[] 130)) X1 X2 X3 130; simp only [World.size_alloc, World.size_drew] at h; exact h)
                          refine step_F (l := ([] : List Atom)) (m := r) (B := wc.heap.size + 1 + 1) (by rfl) (.tmp 66) (.tmp 69) _ (by rfl) ti_atom (by rfl) (FE.nil _ _ _) (by rfl) (ht.keep Bl) (by simp; omega) (by first | omega | (simp; omega) | simp) ?_
                          intro v7 w7 o7 hf7
                          rw [List.nil_append] at o7
                          obtain ⟨e7, n7, c7, rfl⟩ := o7.forms
                          have hb7 : Below wc.heap.size wc w7 := Below.trans Bl ((tf_below hf7 (by first | omega | (simp; omega) | simp)).mono (by omega))
                          have hz7 := hb7.size
                          have hz7x := hf7.size
                          simp only [World.size_alloc, World.size_drew] at hz7x
                          have HF7 := Lib.hid hf7
                          clear hf7
                          refine hK.out _ _ ?_ (fun hHeld => ?_)
                          · exact fun _ => HSH.out _ hb7
                          clear hK K
                          try simp only [Act.put, List.setIfInBounds_toArray, List.set_cons_zero, List.set_cons_succ]
                          refine wpAnyD_ready (rs := [10]) (by kernel_rfl) (by simp) ?_
                          refine (AllReadyD.cons (o := _) rfl (fun K hK => ?_) AllReadyD.nil)
                          clear hHeld
                          refine step_F (l := r) (m := [((X1, X2, X3) : Atom)]) (B := wc.heap.size + 1 + 1) (by rfl) (.tmp 70) (.tmp 75) _ (by rfl) ti_atom (by rfl) (o7.keep Bl) (by rfl) (HLT.out.kept HF7.out (fun k _ h e => by have h2 := e.1; have h3 : k = wc.heap.size + 1 := h; omega)) (by simp; omega) (by first | omega | (simp; omega) | simp) ?_
                          intro v8 w8 o8 hf8
                          obtain ⟨e8, n8, c8, rfl⟩ := o8.forms
                          have hb8 : Below wc.heap.size wc w8 := Below.trans hb7 ((tf_below hf8 (by first | omega | (simp; omega) | simp)).mono (by omega))
                          have hA8 := box_keep HD.out.2.boxA hb8
                          have u1 := box1 hA8
                          have uz := boxz hA8 1
                          have ul := box_lt hA8
                          clear hf8 hA8
                          refine hK.out _ _ ?_ (fun hHeld => ?_)
                          · exact fun _ => HSH.out _ hb8
                          clear hK K
                          try simp only [Act.put, List.setIfInBounds_toArray, List.set_cons_zero, List.set_cons_succ]
                          refine wpAnyD_free (i := 11) (oi := _) (v := ?_) rfl (by kernel_rfl) (by kernel_rfl) (by kernel_rfl) (by kernel_rfl) (fun _ _ _ h => h) (Or.inl ⟨by rfl, ?_⟩) hHeld (fun hHeld => ?_)
                          rotate_left
                          · (intro w _; first | (go_simp; done) | (go_simp; with_reducible rfl))
                          try simp only [Act.put, List.setIfInBounds_toArray, List.set_cons_zero, List.set_cons_succ]
                          refine wpAnyD_ready (rs := [12]) (by kernel_rfl) (by simp) ?_
                          refine (AllReadyD.cons (o := _) rfl (fun K hK => ?_) AllReadyD.nil)
                          clear hHeld
                          go_simp
                          refine hK.out _ _ ?_ (fun hHeld => ?_)
                          · exact late_none (by kernel_rfl)
                          clear hK K
                          try simp only [Act.put, List.setIfInBounds_toArray, List.set_cons_zero, List.set_cons_succ]
                          refine wpAnyD_done (by kernel_rfl) ?_ _
                          clear hHeld
                          have hz8 := hb8.size
                          have D8 := (HD.out.2.keep hb8).app2 hgl (by omega) (by omega) (o8.mono (by omega)) (Fr.refl _ _)
                          have HN := Lib.hid D8
                          clear D8 o8 hb8
                          go_wp2
                          go_meet
                          case rel => exact ⟨_, _, by simp; omega, HN.out⟩
                      · clear hHeld
                        go_simp
                        refine hK.out _ _ ?_ (fun hHeld => ?_)
                        · exact fun _ => HSH.out _ Bl
                        clear hK K
                        try simp only [Act.put, List.setIfInBounds_toArray, List.set_cons_zero, List.set_cons_succ]
                        refine wpAnyD_ready (rs := [0]) (by kernel_rfl) (by simp) ?_
                        refine (AllReadyD.cons (o := _) rfl (fun K hK => ?_) AllReadyD.nil)
                        clear hHeld
                        go_simp
                        refine hK.out _ _ ?_ (fun hHeld => ?_)
                        · exact fun _ => HSH.out _ Bl
                        clear hK K
                        try simp only [Act.put, List.setIfInBounds_toArray, List.set_cons_zero, List.set_cons_succ]
                        refine wpAnyD_ready (rs := [4]) (by kernel_rfl) (by simp) ?_
                        refine (AllReadyD.cons (o := _) rfl (fun K hK => ?_) AllReadyD.nil)
                        clear hHeld
                        have HLT := Lib.hid (show RL (((wc.alloc (.cells #[.int .i64 X1, .int .i64 X2, .int .i64 X3] 130)).alloc (.cells #[] 130)).drew) (fun k => k = wc.heap.size) (.slice (some ⟨wc.heap.size, 0, none⟩) 1 1) [((X1, X2, X3) : Atom)] from by have h := (lit_atom wc.drew X1 X2 X3 130).alloc (.cells #[] 130); simp only [World.size_drew] at h; exact h)
                        refine step_F (l := ([] : List Atom)) (m := r) (B := wc.heap.size + 1 + 1) (by rfl) (.tmp 66) (.tmp 69) _ (by rfl) ti_atom (by rfl) (FE.nil _ _ _) (by rfl) (ht.keep Bl) (by simp; omega) (by first | omega | (simp; omega) | simp) ?_
                        intro v7 w7 o7 hf7
                        rw [List.nil_append] at o7
                        obtain ⟨e7, n7, c7, rfl⟩ := o7.forms
                        have hb7 : Below wc.heap.size wc w7 := Below.trans Bl ((tf_below hf7 (by first | omega | (simp; omega) | simp)).mono (by omega))
                        have hz7 := hb7.size
                        have hz7x := hf7.size
                        simp only [World.size_alloc, World.size_drew] at hz7x
                        have HF7 := Lib.hid hf7
                        clear hf7
                        refine hK.out _ _ ?_ (fun hHeld => ?_)
                        · exact fun _ => HSH.out _ hb7
                        clear hK K
                        try simp only [Act.put, List.setIfInBounds_toArray, List.set_cons_zero, List.set_cons_succ]
                        refine wpAnyD_ready (rs := [10]) (by kernel_rfl) (by simp) ?_
                        refine (AllReadyD.cons (o := _) rfl (fun K hK => ?_) AllReadyD.nil)
                        clear hHeld
                        refine step_F (l := r) (m := [((X1, X2, X3) : Atom)]) (B := wc.heap.size + 1 + 1) (by rfl) (.tmp 70) (.tmp 75) _ (by rfl) ti_atom (by rfl) (o7.keep Bl) (by rfl) (HLT.out.kept HF7.out (fun k _ h e => by have h2 := e.1; have h3 : k = wc.heap.size := h; omega)) (by simp; omega) (by first | omega | (simp; omega) | simp) ?_
                        intro v8 w8 o8 hf8
                        obtain ⟨e8, n8, c8, rfl⟩ := o8.forms
                        have hb8 : Below wc.heap.size wc w8 := Below.trans hb7 ((tf_below hf8 (by first | omega | (simp; omega) | simp)).mono (by omega))
                        have hA8 := box_keep HD.out.2.boxA hb8
                        have u1 := box1 hA8
                        have uz := boxz hA8 1
                        have ul := box_lt hA8
                        clear hf8 hA8
                        refine hK.out _ _ ?_ (fun hHeld => ?_)
                        · exact fun _ => HSH.out _ hb8
                        clear hK K
                        try simp only [Act.put, List.setIfInBounds_toArray, List.set_cons_zero, List.set_cons_succ]
                        refine wpAnyD_free (i := 11) (oi := _) (v := ?_) rfl (by kernel_rfl) (by kernel_rfl) (by kernel_rfl) (by kernel_rfl) (fun _ _ _ h => h) (Or.inl ⟨by rfl, ?_⟩) hHeld (fun hHeld => ?_)
                        rotate_left
                        · (intro w _; first | (go_simp; done) | (go_simp; with_reducible rfl))
                        try simp only [Act.put, List.setIfInBounds_toArray, List.set_cons_zero, List.set_cons_succ]
                        refine wpAnyD_ready (rs := [12]) (by kernel_rfl) (by simp) ?_
                        refine (AllReadyD.cons (o := _) rfl (fun K hK => ?_) AllReadyD.nil)
                        clear hHeld
                        go_simp
                        refine hK.out _ _ ?_ (fun hHeld => ?_)
                        · exact late_none (by kernel_rfl)
                        clear hK K
                        try simp only [Act.put, List.setIfInBounds_toArray, List.set_cons_zero, List.set_cons_succ]
                        refine wpAnyD_done (by kernel_rfl) ?_ _
                        clear hHeld
                        have hz8 := hb8.size
                        have D8 := (HD.out.2.keep hb8).app2 hgl (by omega) (by omega) (o8.mono (by omega)) (Fr.refl _ _)
                        have HN := Lib.hid D8
                        clear D8 o8 hb8
                        go_wp2
                        go_meet
                        case rel => exact ⟨_, _, by simp; omega, HN.out⟩
                case rest =>
                  clear HD
                  obtain ⟨y2, l3, hl3, D⟩ := hcut
                  obtain ⟨yb2, yd2, rfl⟩ := D.a.form
                  have HL3 := Lib.hid hl3
                  have b0 := box0 D.boxA
                  have b1 := box1 D.boxA
                  have bl := box_lt D.boxA
                  have r0 := box0 D.boxR
                  have r1 := box1 D.boxR
                  have rz := boxz D.boxR
                  have rl := box_lt D.boxR
                  have r := box_two (.slice yb1 l1.length yd1) (.slice yb2 l3.length yd2) r0 r1
                  have HO := Lib.hid (D.done hgl (by omega) (.slice yb1 l1.length yd1) (.slice yb2 l3.length yd2))
                  clear D hl3
                  go_wp2
                  refine bodyPost_ret (v := .agg #[.slice yb1 l1.length yd1, .slice yb2 l3.length yd2]) (by simp [results, Try.results126, go_sem, r.1, r.2]) rfl ?_
                  exact ⟨_, _, (l1, l3), rfl, ⟨HL1.out, HL3.out⟩, HO.out.1.1, HO.out.1.2, HO.out.2.1, HO.out.2.2⟩
end Go.Proofs.Ytapoillhgimdiaa

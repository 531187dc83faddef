/- Walks: the proof of a case: the reference. -/
import Derived.Test.YthoingdcmdhllaaPrv1
import Derived.Test.YthoingdcmdhllaaEntC
import Derived.Deep.RegionLaw
namespace Go.Proofs.Ythoingdcmdhllaa
open Go.RowKit

/-- What a proof uses, if there is one. -/
def provC (a b : Asn) (cl : List Int) : Option (List (List Int)) := if asnB a = true ∧ asnB b = true ∧ readC (termsM b) a cl = true then matchC a b cl else none
def proveR (a b : Asn) (cl : List Int) : CPf := match provC a b cl with
  | some us => (cl, us)
  | none => ([], [])
theorem provC_ent (a b : Asn) (cl : List Int) : entC a b cl = (provC a b cl).isSome := by
  rw [provC, entC]
  cases h1 : asnB a
  · simp
  cases h2 : asnB b
  · simp
  cases h3 : readC (termsM b) a cl
  · simp
  · simp
theorem provC_some {a b : Asn} {cl : List Int} {us : List (List Int)} (h : provC a b cl = some us) :
    ((asnB a = true ∧ asnB b = true) ∧ readC (termsM b) a cl = true) ∧ (matchC a b cl = some us ∧ ∃ m, goalsU (filledL cl a.2) (filledL cl b.2) 0 = some (m, us)) := by
  rw [provC] at h
  by_cases hc : asnB a = true ∧ asnB b = true ∧ readC (termsM b) a cl = true
  · rw [if_pos hc] at h
    refine ⟨⟨⟨hc.1, hc.2.1⟩, hc.2.2⟩, h, ?_⟩
    rw [matchC] at h
    by_cases hf : b.1.all (factC cl) = true
    · rw [if_pos hf, mtchF] at h
      cases hg : goalsU (filledL cl a.2) (filledL cl b.2) 0 with
      | none => rw [hg] at h; cases h
      | some p =>
        rw [hg] at h
        simp only at h
        split at h
        · simp only [Option.some.injEq] at h
          exact ⟨p.1, by rw [← h]⟩
        · cases h
    · rw [if_neg hf] at h; cases h
  · rw [if_neg hc] at h; cases h
theorem goals_len {left : List Atom} : ∀ {right : List Atom} {m m' : Nat} {us : List (List Int)}, goalsU left right m = some (m', us) → us.length = right.length
  | [], m, m', us, h => by simp only [goalsU, Option.some.injEq, Prod.mk.injEq] at h; rw [← h.2]; rfl
  | x :: r, m, m', us, h => by
    rw [goalsU] at h
    cases hg : goalU left m x with
    | none => rw [hg] at h; cases h
    | some p =>
      rw [hg] at h
      simp only [Option.map_eq_some_iff, Prod.mk.injEq] at h
      obtain ⟨q, hq, _, h2⟩ := h
      rw [← h2, List.length_cons, List.length_cons, goals_len (m' := q.1) (us := q.2) (by rw [hq])]
theorem goals_go {left right : List Atom} {k m mF : Nat} {us0 us : List (List Int)} (hall : goalsU left right 0 = some (mF, us0)) (hk : k < right.length) (h : goalsU left (right.take k) 0 = some (m, us)) :
    ∃ m' u, goalU left m (gd right k) = some (m', u) ∧ goalsU left (right.take (k + 1)) 0 = some (m', us ++ [u]) := by
  have ht := goals_take hk h
  cases hg : goalU left m (gd right k) with
  | none =>
    rw [hg] at ht
    have := goals_stop (left := left) (right := right) (k := k + 1) ht
    rw [this] at hall; cases hall
  | some p => exact ⟨p.1, p.2, rfl, by rw [ht, hg]; rfl⟩
theorem own_rlP {w : World} {B : Nat} {v : Value} {l : List Int} (h : w.ownsRow B 3 1 v l.length (ints l)) : RL w (fun k => B ≤ k) v l := (own_ints h).1.rl.more fun _ _ hk => (own_lt h hk).1
theorem chain_len {left : List Atom} {B : Int} {c : Bool} : ∀ {f m : Nat} {A : Int} {p : Nat × List Int}, chainU left B c f m A = some p → p.2.length ≤ f
  | 0, _, _, _, h => by simp [chainU] at h
  | f + 1, m, A, p, h => by
    obtain ⟨mF, us⟩ := p
    obtain ⟨f', i, he, _, h3⟩ := chain_step h
    obtain rfl : f = f' := by omega
    rcases h3 with ⟨_, _, rfl⟩ | ⟨_, us2, rfl, h4⟩
    · simp
    · have := chain_len h4
      simp only [List.length_cons] at this ⊢
      omega
theorem goal_len {left : List Atom} {m : Nat} {x : Atom} {p : Nat × List Int} (h6 : left.length ≤ 6) (h : goalU left m x = some p) : p.2.length ≤ 6 := by
  obtain ⟨mF, us⟩ := p
  rw [goal_shapeS] at h
  by_cases hx : x.1 = 1
  · rw [if_pos hx] at h
    obtain ⟨i, _, _, _, rfl⟩ := cell_step h
    simp
  · rw [if_neg hx] at h
    have := chain_len h
    omega
theorem goals_all {left : List Atom} (h6 : left.length ≤ 6) : ∀ {right : List Atom} {m : Nat} {p : Nat × List (List Int)}, goalsU left right m = some p → ∀ u ∈ p.2, u.length ≤ 6
  | [], m, p, h => by simp only [goalsU, Option.some.injEq] at h; rw [← h]; simp
  | x :: r, m, p, h => by
    rw [goalsU] at h
    cases hg : goalU left m x with
    | none => rw [hg] at h; cases h
    | some q =>
      rw [hg] at h
      simp only [Option.map_eq_some_iff] at h
      obtain ⟨z, hz, rfl⟩ := h
      intro u hu
      rcases List.mem_cons.1 hu with rfl | hu
      · exact goal_len h6 hg
      · exact goals_all h6 hz u hu
theorem sum_six : ∀ (l : List (List Int)), (∀ u ∈ l, u.length ≤ 6) → (l.map (Mk.size (α := List Int))).sum ≤ 6 * l.length
  | [], _ => by simp
  | x :: r, h => by
    have h1 := sum_six r fun u hu => h u (List.mem_cons_of_mem _ hu)
    have h2 : Mk.size x ≤ 6 := h x List.mem_cons_self
    simp only [List.map_cons, List.sum_cons, List.length_cons]
    omega
theorem prove_size (a b : Asn) (cl : List Int) : Mk.size (proveR a b cl) ≤ 1048576 := by
  cases hp : provC a b cl with
  | none => rw [proveR, hp]; show 0 + (0 + 0) ≤ 1048576; omega
  | some us =>
    obtain ⟨⟨⟨ha, hb⟩, hr⟩, _, m, hall⟩ := provC_some hp
    have h6 := Nat.le_trans (filledL_len cl a.2) (asn_all' ha).2
    have hr6 := Nat.le_trans (filledL_len cl b.2) (asn_all' hb).2
    have hs := sum_six us (goals_all h6 hall)
    have hl := goals_len hall
    have hc := read_len hr
    rw [proveR, hp]
    show cl.length + (us.length + (us.map (Mk.size (α := List Int))).sum) ≤ 1048576
    omega
set_option maxRecDepth 100000 in
set_option maxHeartbeats 6400000 in
theorem proveCaseS_any {S1 S2 S3 S4 : Nat → Prop} (v1 v2 u1 u2 cv : Value) (a b : Asn) (cl : List Int) (w : World) (h1 : RL w S1 v1 a.1) (h2 : RL w S2 v2 a.2) (k1 : RL w S3 u1 b.1) (k2 : RL w S4 u2 b.2) (j1 : RInts w cv cl) :
    Calls Try.prog 48 #[.agg #[v1, v2], .agg #[u1, u2], cv] w fun e w' => ∃ y1 y2, e = .returned (.tuple #[.agg #[y1, y2], .bool (provC a b cl).isSome]) ∧ (RL w' (fun k => w.heap.size ≤ k) y1 (proveR a b cl).1 ∧ RL w' (fun k => w.heap.size ≤ k) y2 (proveR a b cl).2) ∧ Below w.heap.size w w' := by
  obtain ⟨xa1, xc1, rfl⟩ := h1.form
  obtain ⟨xa2, xc2, rfl⟩ := h2.form
  obtain ⟨ya1, yc1, rfl⟩ := k1.form
  obtain ⟨ya2, yc2, rfl⟩ := k2.form
  obtain ⟨za1, zc1, rfl⟩ := j1.form
  obtain ⟨W, hWe⟩ : ∃ W, W = ((w.alloc (.cells #[.slice xa1 a.1.length xc1, .slice xa2 a.2.length xc2] 34)).alloc (.cells #[.slice ya1 b.1.length yc1, .slice ya2 b.2.length yc2] 34)).alloc (.cells #[.slice none 0 0, .slice none 0 0] 73) := ⟨_, rfl⟩
  have hW : Below w.heap.size w W := by rw [hWe]; exact (by repeat (first | exact Below.refl _ _ | with_reducible assumption | exact below_alloc _ _ | (refine Below.setCell ?_ (by first | (simp; done) | (simp; omega) | omega) _) | apply bd | apply ba | apply be))
  have hc0 : W.cell? ⟨w.heap.size, 0, none⟩ = some (.slice xa1 a.1.length xc1) := by rw [hWe]; simp [go_sem]
  have hc1 : W.cell? ⟨w.heap.size, 1, none⟩ = some (.slice xa2 a.2.length xc2) := by rw [hWe]; simp [go_sem]
  have hd0 : W.cell? ⟨w.heap.size + 1, 0, none⟩ = some (.slice ya1 b.1.length yc1) := by rw [hWe]; simp [go_sem]
  have hd1 : W.cell? ⟨w.heap.size + 1, 1, none⟩ = some (.slice ya2 b.2.length yc2) := by rw [hWe]; simp [go_sem]
  have hR : W.heap[w.heap.size + 1 + 1]? = some (.cells #[.slice none 0 0, .slice none 0 0] 73 (0, 0)) := by
    rw [hWe]
    have := heap_alloc_new ((w.alloc (.cells #[.slice xa1 a.1.length xc1, .slice xa2 a.2.length xc2] 34)).alloc (.cells #[.slice ya1 b.1.length yc1, .slice ya2 b.2.length yc2] 34)) (.cells #[.slice none 0 0, .slice none 0 0] 73)
    simpa only [World.size_alloc] using this
  have HWE := Lib.hid hWe
  have HX := Lib.hid (And.intro (And.intro hc0 hc1) (And.intro (And.intro hd0 hd1) (And.intro hR hW)))
  clear hWe hc0 hc1 hd0 hd1 hR hW
  have hent := provC_ent a b cl
  cases hp : provC a b cl with
  | none =>
    rw [hp] at hent
    have HE := Lib.hid hent
    have HR := Lib.hid (show proveR a b cl = ([], []) by rw [proveR, hp])
    clear hent hp
    go_enter Try.func48, Try.ntmps48
    go_upto_region 1 with fail
    rw [← HWE.out]
    obtain ⟨⟨hc0, hc1⟩, ⟨hd0, hd1⟩, hR, hW⟩ := HX.out
    go_wp2_with fail
    refine (cb (entCaseS_any _ _ _ _ _ a b cl _ (h1.keep hW) (h2.keep hW) (k1.keep hW) (k2.keep hW) (j1.keep hW)) HE.out).mono ?_
    rintro e w1 ⟨rfl, hb⟩
    have hR1 := box_keep hR hb
    have r0 := box0 hR1
    have r1 := box1 hR1
    have rz0 := boxz hR1 0
    have rz1 := boxz hR1 1
    have hzz := box_lt hR1
    have HB := Lib.hid (bt hW hb)
    clear hb hR hW hc0 hc1 hd0 hd1
    go_wp2
    refine bodyPost_ret (v := .tuple #[.agg #[.slice none 0 0, .slice none 0 0], .bool false]) (by simp [results, Try.results48, go_sem, r0, r1]) rfl ?_
    exact ⟨_, _, rfl, ⟨by rw [HR.out]; exact .inl ⟨_, _, rfl, rfl, by decide, by simp⟩, by rw [HR.out]; exact .inl ⟨_, _, rfl, rfl, by decide, by simp⟩⟩, HB.out.trans (by repeat (first | exact Below.refl _ _ | with_reducible assumption | exact below_alloc _ _ | (refine Below.setCell ?_ (by first | (simp; done) | (simp; omega) | omega) _) | apply bd | apply ba | apply be))⟩
  | some us0 =>
    rw [hp] at hent
    obtain ⟨⟨⟨ha, hb⟩, hr⟩, hm, mF, hall⟩ := provC_some hp
    have hlen := read_len hr
    have fa := asn_all' ha
    have fb := asn_all' hb
    have HE := Lib.hid hent
    have HR := Lib.hid (show proveR a b cl = (cl, us0) by rw [proveR, hp])
    have HLN := Lib.hid (And.intro hlen (And.intro (show a.2.length ≤ 1048576 by have := fa.2; omega) (show b.2.length ≤ 1048576 by have := fb.2; omega)))
    have HAT := Lib.hid (And.intro fa.1.2 fb.1.2)
    have HKD := Lib.hid (filled_kinds (cl := cl) fb.1.2)
    have h6 := Nat.le_trans (filledL_len cl a.2) fa.2
    have hr6 := Nat.le_trans (filledL_len cl b.2) fb.2
    obtain ⟨left, hleft⟩ : ∃ l, filledL cl a.2 = l := ⟨_, rfl⟩
    obtain ⟨right, hright⟩ : ∃ l, filledL cl b.2 = l := ⟨_, rfl⟩
    rw [hleft, hright] at hall
    rw [hleft] at h6
    rw [hright] at hr6
    have HALL := Lib.hid hall
    have HL := Lib.hid (And.intro hleft hright)
    rw [HL.out.2] at HKD
    clear hent hp ha hb hr hm hlen fa fb hall hleft hright
    go_enter Try.func48, Try.ntmps48
    go_upto_region 1 with fail
    rw [← HWE.out]
    obtain ⟨⟨hc0, hc1⟩, ⟨hd0, hd1⟩, hR, hW⟩ := HX.out
    go_wp2_with fail
    refine (cb (entCaseS_any _ _ _ _ _ a b cl _ (h1.keep hW) (h2.keep hW) (k1.keep hW) (k2.keep hW) (j1.keep hW)) HE.out).mono ?_
    rintro e w1 ⟨rfl, hb⟩
    replace hR := box_keep hR hb
    replace hc0 := cell_keep hb hc0; replace hc1 := cell_keep hb hc1; replace hd0 := cell_keep hb hd0; replace hd1 := cell_keep hb hd1; replace hW := bt hW hb; clear hb
    go_wp2_with fail
    refine (filledS_any _ _ cl a.2 _ (j1.keep hW) HLN.out.1 (h2.keep hW) HAT.out.1 HLN.out.2.1).mono ?_
    rintro e w2 ⟨vL, rfl, hL, hb⟩
    rw [HL.out.1] at hL
    have hLr := hL.rl
    obtain ⟨la, lc, rfl⟩ := hLr.form
    replace hR := box_keep hR hb
    replace hd0 := cell_keep hb hd0; replace hd1 := cell_keep hb hd1; replace hW := bt hW hb; clear hb
    clear hL
    go_wp2_with fail
    refine (filledS_any _ _ cl b.2 _ (j1.keep hW) HLN.out.1 (k2.keep hW) HAT.out.2 HLN.out.2.2).mono ?_
    rintro e w3 ⟨vR, rfl, hRg, hb⟩
    rw [HL.out.2] at hRg
    have hRr := hRg.rl
    obtain ⟨ra, rc, rfl⟩ := hRr.form
    replace hR := box_keep hR hb
    replace hLr := hLr.keep hb
    replace hW := bt hW hb; clear hb
    have hzz := box_lt hR
    clear hRg
    obtain ⟨i0, hi, hz0, hz1, hz2⟩ := info_parts info_bool9
    have HRR := Lib.hid hR
    clear hR
    go_upto_region 6 with (at_make; refine wpList_make_full _ rfl _ _ 151 rfl w3.heap.size 4 i0 (.bool false) 1 Try.underlying151 hi hz0 hz1 _ _ _ _ left.length rfl rfl rfl rfl (by rw [hz2]; omega) (by unfold maxLen; omega) (Nat.le_refl _) ?_; intro w4 hown hgr)
    have hb4 := (grown_fr hgr).below (B := w3.heap.size) (Nat.le_refl _) (by intro k _ e; cases e)
    have e : (madeCells (Value.bool false).cells (left.length * 1)).toList = boolsN left.length 0 := by
      rw [show (Value.bool false).cells = #[Value.bool false] from rfl, toList_madeCells_one, Nat.mul_one, bools_zero]
    rw [e] at hown
    have HB4 := Lib.hid (And.intro (bw_own hown) hb4)
    have hj4 := j1.keep (bt hW hb4)
    have hz34 := hb4.size
    clear hown hgr e hi hz0 hz1 hz2 hb4
    go_wp2_with (at_builtin; go_must (refine app_copy0 rfl (.tmp 30) (.tmp 31) rfl rfl rfl hj4 (by have := HLN.out.1; omega) (by have := HLN.out.1; omega) ?_; intro g2 cap w5 hown5 hb5))
    have bl5 := (below_alloc w5 (.cells #[.slice (some ⟨g2, 0, none⟩) cl.length cap, .slice none 0 0] 73))
    have hboxP := heap_alloc_new w5 (.cells #[.slice (some ⟨g2, 0, none⟩) cl.length cap, .slice none 0 0] 73)
    have hzP : (w5.alloc (.cells #[.slice (some ⟨g2, 0, none⟩) cl.length cap, .slice none 0 0] 73)).heap.size = w5.heap.size + 1 := by simp
    generalize w5.alloc (.cells #[.slice (some ⟨g2, 0, none⟩) cl.length cap, .slice none 0 0] 73) = wP at bl5 hboxP hzP ⊢
    have hg2 : w4.heap.size ≤ g2 ∧ g2 < w5.heap.size := own_lt hown5 rfl
    have hb4 := HB4.out.2
    have hbP := bt hb5 bl5
    have h45 := hb5.size
    have hgw : w3.heap.size < w4.heap.size := HB4.out.1.lt
    have HP0 := Lib.hid (And.intro hboxP (HB4.out.1.keep hbP))
    have HLL := Lib.hid (And.intro (hLr.lt.keep (bt hb4 hbP)) (hRr.lt.keep (bt hb4 hbP)))
    have HEND := Lib.hid (And.intro (own_keep hown5 bl5) (And.intro (bt (bt hW hb4) hbP) (box_keep HRR.out (bt hb4 hbP))))
    clear hown5 hb5 bl5 hboxP hb4 hbP hLr hRr hj4
    obtain ⟨P, hP⟩ : ∃ P, w5.heap.size = P := ⟨_, rfl⟩
    obtain ⟨g, hg⟩ : ∃ g, w3.heap.size = g := ⟨_, rfl⟩
    rw [hP] at hzP hg2 h45 HP0 ⊢
    rw [hg] at hgw HP0 HLL hzz ⊢
    clear hP hg hW hz34 HB4
    go_loopg [12] right.length (fun q i wr => ∃ (k m : Nat) (us : List (List Int)) (vu : Value), k + q = right.length ∧ i = .int .i64 k ∧ goalsU left (right.take k) 0 = some (m, us) ∧ us.length = k ∧ wr.heap[P]? = some (.cells #[.slice (some ⟨g2, 0, none⟩) cl.length cap, vu] 73 (0, 0)) ∧
      PL wr (P + 1) vu us.length us us.length ∧ BW wr g left.length m ∧ Fr (fun j => j = g ∨ j = P) wP wr)
    case atStart => exact ⟨0, 0, [], _, by omega, rfl, rfl, rfl, HP0.out.1, (OO.nil _ _).pl, HP0.out.2, Fr.refl _ _⟩
    case round =>
      obtain ⟨k, m, us, vu, hk, rfl, hgo, hlk, hbox, hpl, hbw, hf⟩ := hrel
      have HK := Lib.hid hk
      have HF := Lib.hid hf
      have HLK := Lib.hid hlk
      have hzw := hf.size
      clear hk
      by_cases hk8 : k < right.length
      · have hki : (k : Int) < (right.length : Int) := by omega
        have hus6 : us.length ≤ 6 := by omega
        have hq := HLL.out.1.kept hf (fun j _ hj e => by have : j < g := hj; omega)
        obtain ⟨ra', rc', hre, _, _, hrf⟩ := (HLL.out.2.kept hf (fun j _ hj e => by have : j < g := hj; omega)).atomAt
        simp only [Value.slice.injEq] at hre
        obtain ⟨rfl, _, rfl⟩ := hre
        obtain ⟨b1, o1, rfl, hs1, hzc, hp1, hp2, hp3⟩ := hrf k hk8
        have hn1 : ¬ b1 = g := fun e => by have : b1 < g := hs1; omega
        obtain ⟨m', u, hgu, hgo'⟩ := goals_go HALL.out hk8 hgo
        have hkd := HKD.out _ (gd_mem hk8)
        obtain ⟨x, hxe⟩ : ∃ x, gd right k = x := ⟨_, rfl⟩
        obtain ⟨x1, x2, x3⟩ := x
        rw [hxe] at hp1 hp2 hp3 hgu hkd
        simp only at hp1 hp2 hp3
        obtain ⟨ua, uc, hvu⟩ := hpl.done.form
        subst hvu
        have HN := Lib.hid hgo'
        have HGU := Lib.hid (And.intro hgu hkd)
        have HPL := Lib.hid hpl
        have HBW := Lib.hid (And.intro hbw hq)
        have d1 := box1 hbox
        have dz := boxz hbox 1
        have HBOX := Lib.hid hbox
        clear hrf hgo hxe hf hlk hgo' hgu hkd hpl hbw hq
        go_wp2
        have hPw : P + 1 ≤ wr.heap.size := by omega
        have hne : ¬ P = g := by omega
        go_region_law (first
          | (go_simp; go_at_call 121; go_must (refine (l16Goal_any _ g left.length m m' left (x1, x2, x3) u _ (HBW.out.2.keep (below_drew _)) (fun j hj e => by have : j < g := hj; omega) (HBW.out.1.keep (below_drew _)) h6 HGU.out.2 HGU.out.1).mono ?_; rintro e w6 ⟨v6, rfl, hu6, hbw6, hf6⟩; obtain ⟨ga, gc, rfl, _⟩ := own_form hu6; have hfq : Fr (fun j => j = g) wr w6 := ((Below.fr (below_drew wr)).mono (S' := fun j => j = g) fun _ _ h => h.elim).trans hf6; have box6 := box_kept HBOX.out hfq hne; have d16 := box1 box6; have hz6 := box_lt box6; obtain ⟨xs, hown, hgrow⟩ := HPL.out.grow (hfq.thenB (below_alloc w6 (.cells #[.slice ga u.length gc] 23))) (fun j hj _ e => by omega) hPw; have H6 := Lib.hid (And.intro hu6 (And.intro hbw6 (And.intro hfq box6))); have HGR := Lib.hid hgrow; have hsz6 := hfq.size; clear hu6 hbw6 hf6 hfq box6 hgrow))
          | (refine step_cells (n := us.length) (m := 1) (news := [.slice ga u.length gc]) rfl (.tmp 41) (.tmp 49) _ rfl (B := P + 1) ti_ints rfl hown rfl rfl (news1 _ _ _) (one1 _ _ _) (by omega) (by simp; omega) ?_; intro v' w7 hr7 hf7 hl7; obtain ⟨za, zc, rfl, _⟩ := own_form hr7; have box7 := box_kept (box_keep H6.out.2.2.2 (below_alloc w6 (.cells #[.slice ga u.length gc] 23))) hf7 (fun e => Nat.not_le.2 (Nat.lt_succ_self P) (own_lt hown e).1); have d7 := box1 box7; have z7 := boxz box7 1; have hz7 := box_lt box7))
        all_goals
          obtain ⟨fx, hOL, hfx⟩ := OO.ints (own_mono (B' := wr.heap.size) H6.out.1 (by simp))
          have hx : Own.own (w6.alloc (.cells #[.slice ga u.length gc] 23)) wr.heap.size u [.slice ga u.length gc] fx := ⟨_, rfl, hOL.keep (below_alloc _ _)⟩
          have hpl7 := HGR.out u _ fx _ w7 hx hfx hf7 hr7 hl7
          have hn7 := fun (j : Nat) (hj : j < P + 1) (e : some j = _) => Nat.not_le.2 hj (own_lt hown e).1
          have hpl8 := (hpl7.done.kept (fr_set w7 ⟨P, 1, none⟩ (.slice za (us.length + 1) zc)) (fun k hk _ e => by have e' : k = P := e; omega)).pl
          have hbw8 := (((H6.out.2.1.keep (below_alloc w6 (.cells #[.slice ga u.length gc] 23))).kept hf7 (hn7 g (by omega))).kept (fr_set w7 ⟨P, 1, none⟩ (.slice za (us.length + 1) zc)) (fun e => hne e.symm))
          have hF8 := (((HF.out.then H6.out.2.2.1 (fun i _ e => .inl e)).thenB (below_alloc w6 (.cells #[.slice ga u.length gc] 23))).then hf7 (fun j hj e => absurd e (hn7 j (by omega)))).then (fr_set w7 ⟨P, 1, none⟩ (.slice za (us.length + 1) zc)) (fun j _ e => .inr e)
          have H8 := Lib.hid (And.intro (box_set1 box7 (.slice za (us.length + 1) zc)) (And.intro hpl8 (And.intro hbw8 hF8)))
          clear hpl7 hpl8 hbw8 hF8 hx hOL hfx hr7 hf7 hl7 box7 d7 z7 hown d16 hn7
          go_wp2
          go_roundg (gk - 1)
          case rel => exact ⟨k + 1, m', us ++ [u], _, by have := HK.out; omega, by go_num, HN.out, by rw [List.length_append, HLK.out]; rfl, H8.out.1, H8.out.2.1, H8.out.2.2.1, H8.out.2.2.2⟩
          case measure => have := HK.out; omega
      · obtain rfl : k = right.length := by have := HK.out; omega
        rw [List.take_length, HALL.out] at hgo
        simp only [Option.some.injEq, Prod.mk.injEq] at hgo
        obtain ⟨rfl, rfl⟩ := hgo
        obtain ⟨ua, uc, hvu⟩ := hpl.done.form
        subst hvu
        have d0 := box0 hbox
        have d1 := box1 hbox
        have hR7 := box_kept HEND.out.2.2 hf (fun e => by omega)
        have r0 := box0 hR7
        have r1 := box1 hR7
        have rz0 := boxz hR7 0
        have rz1 := boxz hR7 1
        have hzr := box_lt hR7
        have hW7 := HEND.out.2.1.trans (hf.below HEND.out.2.1.size fun k hk e => by omega)
        have hFF : Fr (fun j => j = w.heap.size + 1 + 1) wr ((wr.setCell ⟨w.heap.size + 1 + 1, 0, none⟩ (.slice (some ⟨g2, 0, none⟩) cl.length cap)).setCell ⟨w.heap.size + 1 + 1, 1, none⟩ (.slice ua us0.length uc)) := (fr_set wr ⟨w.heap.size + 1 + 1, 0, none⟩ (.slice (some ⟨g2, 0, none⟩) cl.length cap)).then (fr_set _ ⟨w.heap.size + 1 + 1, 1, none⟩ (.slice ua us0.length uc)) fun _ _ e => e
        have hY3 := (own_ints HEND.out.1).1.rl.more (S' := fun k => k = g2) (fun k _ hk => by have h2 : some k = some g2 := hk; exact Option.some.inj h2)
        have hY1 := (hY3.kept hf (fun k _ hk e => by omega)).more (S' := fun k => w.heap.size + 3 ≤ k) (fun k _ hk => by omega)
        have hY0 : RL wr (fun k => P + 1 ≤ k) (.slice ua us0.length uc) us0 := hpl.done.read
        have hPl : w.heap.size + 3 ≤ P + 1 := by omega
        have hY2 := hY0.more (S' := fun k => w.heap.size + 3 ≤ k ∧ P + 1 ≤ k) (fun k _ hk => ⟨Nat.le_trans hPl hk, hk⟩)
        have hE := Lib.hid (And.intro ((hY1.kept hFF (fun k _ hk e => by omega)).more (S' := fun k => w.heap.size ≤ k) (fun k _ hk => by omega)) (And.intro ((hY2.kept hFF (fun k _ hk e => by have := hk.1; omega)).more (S' := fun k => w.heap.size ≤ k) (fun k _ hk => by have := hk.1; omega)) (hW7.trans (hFF.below hW7.size fun k hk e => by omega))))
        clear hf hbox hpl hbw hR7 hW7 hFF hY1 hY2 hlk
        go_wp2
        refine bodyPost_ret (v := .tuple #[.agg #[.slice (some ⟨g2, 0, none⟩) cl.length cap, .slice ua us0.length uc], .bool true]) (by simp [results, Try.results48, go_sem, r0, r1]) rfl ?_
        exact ⟨_, _, rfl, ⟨by rw [HR.out]; exact hE.out.1, by rw [HR.out]; exact hE.out.2.1⟩, hE.out.2.2⟩
end Go.Proofs.Ythoingdcmdhllaa

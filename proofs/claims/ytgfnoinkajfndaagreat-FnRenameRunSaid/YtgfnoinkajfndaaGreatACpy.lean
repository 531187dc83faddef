/- Cpy: texts Cp, Free, Same in one. -/
import Derived.Test.YtgfnoinkajfndaaGreatABase1
import Derived.Test.YtgfnoinkajfndaaGreatABase3
import Derived.Test.YtgfnoinkajfndaaGreatADraw1
import Derived.Laws.CopyOwn
import Derived.Deep.RegionHeld3
import Derived.Test.YtgfnoinkajfndaaGreatAPerms
/- Walks: copies of lists of integers and of states. -/
namespace Go.Proofs.YtgfnoinkajfndaaGreat
open Go.RowKit

theorem own_row {w : World} {B e g n c : Nat} {xs : List Value} (h : w.ownsRow B e 1 (.slice (some ⟨g, 0, none⟩) n c) n xs) (hc : c = n) : ∃ cur : List Value, cur.length = n ∧ w.heap[g]? = some (.cells cur.toArray e (0, 0)) := by
  subst hc
  rcases h.2 with ⟨hv, _⟩ | ⟨g', cap, cur, hv, _, hg, _, _, hs, _⟩
  · cases hv
  · injection hv with h1 h2 h3
    obtain rfl : g = g' := by injection h1 with h1; injection h1
    subst h3
    exact ⟨cur.toList, by simpa using hs, by simpa using hg⟩
theorem own_of_row {w : World} {B e g n : Nat} {l : List Int} (hB : B ≤ g) (hn : n = l.length) (hm : n ≤ maxLen) (h : w.heap[g]? = some (.cells (ints l).toArray e (0, 0))) : w.ownsRow B e 1 (.slice (some ⟨g, 0, none⟩) n n) n (ints l) := by
  subst hn
  exact ⟨by simp [ints], .inr ⟨g, l.length, (ints l).toArray, rfl, hB, h, Nat.le_refl _, hm, by simp [ints], by rw [List.take_of_length_le (by simp [ints])]⟩⟩
theorem splice_all (cur cs : List Value) (h : cur.length = cs.length) : splice cur 0 cs = cs := by
  simp [splice, h]

theorem rints_news {w : World} {a : Option Addr} {n c : Nat} {l : List Int} (h : RInts w (.slice a n c) l) : 0 < (ints l).length → ∃ ad, a = some ad ∧ ∀ j u, (ints l)[j]? = some u → w.cell? (ad.add j) = some u := by
  intro hl
  have hl' : 0 < l.length := by simpa [ints] using hl
  obtain ⟨b, o, cap, hv, _, _, hc⟩ := h.ne hl'
  injection hv with h1 h2 h3
  refine ⟨_, h1, fun j u hj => ?_⟩
  have hjl : j < l.length := by
    rcases Nat.lt_or_ge j l.length with h | h
    · exact h
    · rw [List.getElem?_eq_none (by simpa [ints] using h)] at hj; cases hj
  have hu : u = .int .i64 (gi l j) := by
    simp [ints, hjl] at hj; rw [gi_of hjl, ← hj]
  have e : (⟨b, o, none⟩ : Addr).add j = ⟨b, o + j, none⟩ := by unfold Addr.add; split <;> simp_all
  rw [e, hc j hjl, hu]
theorem ints_one (l : List Int) : ∀ u ∈ ints l, u.oneCell' = true := by
  intro u hu; simp [ints] at hu; obtain ⟨_, _, rfl⟩ := hu; rfl

set_option maxHeartbeats 800000 in
theorem copyInts_any (v : Value) (l : List Int) (w : World) (h : RInts w v l) (hl : l.length ≤ 1048576) :
    Calls Tryz.prog 105 #[v] w fun e w' => e = .returned (.slice (some ⟨w.heap.size, 0, none⟩) l.length l.length) ∧ w'.ownsRow w.heap.size 3 1 (.slice (some ⟨w.heap.size, 0, none⟩) l.length l.length) l.length (ints l) ∧ Below w.heap.size w w' := by
  obtain ⟨a, cap, rfl⟩ := h.form
  have H := Lib.hid h
  clear h
  obtain ⟨i0, hi, hz0, hz1, hz2⟩ := info_parts info_int
  have hsz : (Tryz.prog.info? 3).map (·.size) = some 1 := by rw [hi]; exact congrArg some hz1
  go_enter Tryz.func105, Tryz.ntmps105
  go_wp2_with (first
    | (at_make; refine wpList_make_full _ rfl _ _ 23 rfl w.heap.size 3 i0 (.int .i64 0) 1 Tryz.underlying23 hi hz0 hz1 _ _ _ _ l.length rfl rfl rfl rfl (by rw [hz2]; omega) (by unfold maxLen; omega) (Nat.le_refl _) ?_; intro w1 hown1 hgrow1; obtain ⟨cur, hcl, hcur⟩ := own_row hown1 rfl; have hb1 : Below w.heap.size w w1 := (grown_fr hgrow1).below (Nat.le_refl _) (fun k _ e => by cases e); have HCUR := Lib.hid (And.intro hcl hcur); clear hcl hcur hown1 hgrow1)
    | (refine wpList_copy_splice rfl _ _ _ _ rfl 3 Tryz.underlying23 hsz _ _ _ _ _ _ rfl rfl w.heap.size 0 cur 3 HCUR.out.2 (ints l) (by simp [ints]) (fun hp => ⟨rfl, rints_news (H.out.keep hb1) hp⟩) (by rw [HCUR.out.1]; simp [ints]) (ints_one l) w.heap.size w hb1 (Nat.le_refl _) ?_; intro w2 HG2 hb2))
  go_ret
  rw [splice_all _ _ (by rw [HCUR.out.1]; simp [ints])] at HG2
  exact ⟨rfl, own_of_row (Nat.le_refl _) rfl (by unfold maxLen; omega) HG2.out, hb2⟩
theorem ownSt_mk {w3 w4 : World} {B g1 g2 n1 n2 : Nat} {l1 l2 : List Int} (h3 : w3.ownsRow B 3 1 (.slice (some ⟨g1, 0, none⟩) l1.length n1) l1.length (ints l1)) (hb : Below w3.heap.size w3 w4) (hg : w3.heap.size ≤ g2) (hB : B ≤ w3.heap.size)
    (h4 : w4.ownsRow g2 3 1 (.slice (some ⟨g2, 0, none⟩) l2.length n2) l2.length (ints l2)) : OwnSt w4 B (.slice (some ⟨g1, 0, none⟩) l1.length n1) (.slice (some ⟨g2, 0, none⟩) l2.length n2) l1 l2 :=
  ⟨own_keep h3 hb, own_mono h4 (by omega), fun k hk hk2 => by
    have := (own_lt h3 hk).2
    simp [Value.ownBlock] at hk hk2
    omega⟩

set_option maxHeartbeats 800000 in
theorem copyState_any (v1 v2 : Value) (l1 l2 : List Int) (w : World) (h1 : RInts w v1 l1) (h2 : RInts w v2 l2) (hl1 : l1.length ≤ 1048576) (hl2 : l2.length ≤ 1048576) :
    Calls Tryz.prog 68 #[.agg #[v1, v2]] w fun e w' => ∃ u1 u2, e = .returned (.agg #[u1, u2]) ∧ OwnSt w' w.heap.size u1 u2 l1 l2 ∧ Below w.heap.size w w' := by
  go_enter Tryz.func68, Tryz.ntmps68
  go_wp2_with fail
  generalize hw0 : (w.alloc (.cells #[v1, v2] 25)).alloc (.cells #[.slice none 0 0, .slice none 0 0] 25) = w0 at *
  have q1 : RInts w0 v1 l1 := by rw [← hw0]; exact (h1.alloc _).alloc _
  have q2 : RInts w0 v2 l2 := by rw [← hw0]; exact (h2.alloc _).alloc _
  have hc0 : w0.cell? ⟨w.heap.size, 0, none⟩ = some v1 := by rw [← hw0]; simp [go_sem]
  have hc1 : w0.cell? ⟨w.heap.size, 1, none⟩ = some v2 := by rw [← hw0]; simp [go_sem]
  have hA : w0.heap[w.heap.size + 1]? = some (.cells #[.slice none 0 0, .slice none 0 0] 25 (0, 0)) := by
    rw [← hw0]
    have := heap_alloc_new (w.alloc (.cells #[v1, v2] 25)) (.cells #[.slice none 0 0, .slice none 0 0] 25)
    simpa using this
  have hsz : w0.heap.size = w.heap.size + 2 := by rw [← hw0]; simp
  have hbw : Below w.heap.size w w0 := by rw [← hw0]; exact bt (below_alloc _ _) (below_alloc _ _)
  clear hw0 h1 h2
  have HSZ := Lib.hid hsz
  have HA := Lib.hid hA
  clear hsz hA
  go_region_held3 (fun w' => w'.cell? ⟨w.heap.size, 0, none⟩ = some v1 ∧ w'.cell? ⟨w.heap.size, 1, none⟩ = some v2)
    (first
      | exact ⟨hc0, hc1⟩
      | exact ⟨cell_keep hb4 hc0, cell_keep hb4 hc1⟩
      | exact ⟨cell_keep (bd hb4) hc0, cell_keep (bd hb4) hc1⟩
      | exact ⟨cell_keep hb3 hc0, cell_keep hb3 hc1⟩
      | exact ⟨cell_keep (bd hb3) hc0, cell_keep (bd hb3) hc1⟩
      | exact ⟨cell_keep (below_drew _) hc0, cell_keep (below_drew _) hc1⟩
      | exact ⟨(fr_set _ _ _).cell (by simp) ((fr_set _ _ _).cell (by simp) (cell_keep hb4 hc0)), (fr_set _ _ _).cell (by simp) ((fr_set _ _ _).cell (by simp) (cell_keep hb4 hc1))⟩)
    (first
      | (go_at_call 105; ((with_reducible refine (copyInts_any v1 l1 _ (q1.keep Bl) hl1).mono ?_); rintro e w3 ⟨rfl, hown3, hb3'⟩; have hb3 : Below w0.heap.size w0 w3 := bt Bl hb3'))
      | (go_at_call 105; ((with_reducible refine (copyInts_any v2 l2 _ (q2.keep Bl) hl2).mono ?_); rintro e w4 ⟨rfl, hown4, hb4'⟩; have hb4 : Below w0.heap.size w0 w4 := bt Bl hb4'; have hA4 := box_keep HA.out hb4; have ha0 := box0 hA4; have ha1 := box1 hA4; have haz := boxz hA4 0; have haz1 := boxz hA4 1)))
  all_goals
    have hst : OwnSt w4 (w.heap.size + 2) (.slice (some ⟨w0.heap.size, 0, none⟩) l1.length l1.length) (.slice (some ⟨w3.heap.size, 0, none⟩) l2.length l2.length) l1 l2 :=
      ownSt_mk (by have := HSZ.out; first | exact own_mono hown3 (by simp; omega) | exact own_mono (own_keep hown3 (below_drew _)) (by simp; omega)) (by first | exact hb4' | exact bt (below_drew _) hb4') (by first | exact Nat.le_refl _ | simp) (by have := HSZ.out; have := hb3.size; simp; omega) hown4
    have HST := Lib.hid hst
    have HB4 := Lib.hid hb4
    clear hst hb4 hb4' hown3 hown4 hA4
    go_wp2
    refine bodyPost_ret (v := .agg #[.slice (some ⟨w0.heap.size, 0, none⟩) l1.length l1.length, .slice (some ⟨w3.heap.size, 0, none⟩) l2.length l2.length]) (by simp [results, Tryz.results68, go_sem, ha0, ha1]) rfl ?_
    have hs2 := HSZ.out
    refine ⟨_, _, rfl, ?_, ?_⟩
    · exact ((HST.out.kept (fr_set _ _ _) (fun k h1 _ e => by simp at e; omega)).kept (fr_set _ _ _) (fun k h1 _ e => by simp at e; omega)).mono (by omega)
    · exact (((((Below.fr hbw).mono (S' := fun k => k = w.heap.size + 1) fun _ _ h => h.elim).thenB HB4.out).then (fr_set _ _ _) (fun i hi e => by simp at e; omega)).then (fr_set _ _ _) (fun i hi e => by simp at e; omega)).below (Nat.le_refl _) (fun k hk e => by omega)
end Go.Proofs.YtgfnoinkajfndaaGreat
/- Walks: FreeCell. -/
namespace Go.Proofs.YtgfnoinkajfndaaGreat
open Go.RowKit

theorem box_two {w : World} {b : Nat} {u v : Value} (x y : Value) (h0 : w.cell? ⟨b, 0, none⟩ = some u) (h1 : w.cell? ⟨b, 1, none⟩ = some v) :
    ((w.setCell ⟨b, 0, none⟩ x).setCell ⟨b, 1, none⟩ y).cell? ⟨b, 0, none⟩ = some x ∧ ((w.setCell ⟨b, 0, none⟩ x).setCell ⟨b, 1, none⟩ y).cell? ⟨b, 1, none⟩ = some y := by
  constructor
  · rw [World.cell?_setCell_other _ _ _ _ (by simp), World.cell?_setCell_same _ _ _ h0]
  · exact World.cell?_setCell_same _ _ _ (u := v) (by rw [World.cell?_setCell_other _ _ _ _ (by simp)]; exact h1)

end Go.Proofs.YtgfnoinkajfndaaGreat
/- Walks: equal lists and equal states. -/
namespace Go.Proofs.YtgfnoinkajfndaaGreat
open Go.RowKit

set_option maxHeartbeats 400000 in
theorem sameInts_any (v1 v2 : Value) (l1 l2 : List Int) (w : World) (h1 : RInts w v1 l1) (h2 : RInts w v2 l2) :
    Calls Tryz.prog 32 #[v1, v2] w fun e w' => e = .returned (.bool (decide (l1 = l2))) ∧ w = w' := by
  have hm1 := h1.len
  have hm2 := h2.len
  unfold maxLen at hm1 hm2
  obtain ⟨a1, c1, rfl, hf1⟩ := h1.cells
  obtain ⟨a2, c2, rfl, hf2⟩ := h2.cells
  by_cases hl : l1.length = l2.length
  · have hle : l1.length ≤ l2.length := by omega
    have hge : l2.length ≤ l1.length := by omega
    have HL := Lib.hid hl
    have F1 := Lib.hid hf1
    have F2 := Lib.hid hf2
    have hne : ((l1.length : Int) != (l2.length : Int)) = false := by simp [hl]
    clear hl hf1 hf2 h1 h2
    go_enter Tryz.func32, Tryz.ntmps32
    go_wp2
    go_loopg [14] l1.length (fun q i wr => ∃ k : Nat, k + q = l1.length ∧ i = .int .i64 k ∧ l1.take k = l2.take k ∧ w = wr)
    case atStart => exact ⟨0, by omega, rfl, by simp, rfl⟩
    case round =>
      obtain ⟨k, hk, rfl, ht, rfl⟩ := hrel
      have HK := Lib.hid hk
      have HT := Lib.hid ht
      clear hk ht
      by_cases hk8 : k < l1.length
      · have hk2 : k < l2.length := by omega
        obtain ⟨b1, o1, rfl, hbl1, hc1⟩ := F1.out k hk8
        obtain ⟨b2, o2, rfl, hbl2, hc2⟩ := F2.out k hk2
        have i1 : (k : Int) < (l1.length : Int) := by omega
        have i2 : (k : Int) < (l2.length : Int) := by omega
        by_cases he : gi l1 k = gi l2 k
        · have hne2 : (gi l1 k != gi l2 k) = false := by simp [he]
          have HE := Lib.hid he
          clear he
          go_wp2
          go_roundg (gk - 1)
          case rel => exact ⟨k + 1, by have := HK.out; omega, by go_num, take_eq_succ hk8 hk2 HT.out HE.out, rfl⟩
          case measure => have := HK.out; omega
        · have hne2 : (gi l1 k != gi l2 k) = true := by simpa using he
          have hfin : decide (l1 = l2) = false := by simpa using ne_of_gi he
          have HF := Lib.hid hfin
          clear he hfin
          go_wp2
          go_ret
          exact ⟨by rw [HF.out]; rfl, rfl⟩
      · obtain rfl : k = l1.length := by have := HK.out; omega
        have hfin : decide (l1 = l2) = true := by
          have := HT.out
          rw [List.take_length, HL.out, List.take_length] at this
          simpa using this
        have HF := Lib.hid hfin
        clear hfin HT
        go_wp2
        go_ret
        exact ⟨by rw [HF.out]; rfl, rfl⟩
  · have hne : ((l1.length : Int) != (l2.length : Int)) = true := by simp; omega
    have hfin : decide (l1 = l2) = false := by simpa using fun h => hl (by rw [h])
    have HF := Lib.hid hfin
    clear hl hfin
    go_enter Tryz.func32, Tryz.ntmps32
    go_wp2
    go_ret
    exact ⟨by rw [HF.out]; rfl, rfl⟩
set_option maxHeartbeats 400000 in
theorem stateSame_any (v1 v2 u1 u2 : Value) (l1 l2 m1 m2 : List Int) (w : World) (h1 : RInts w v1 l1) (h2 : RInts w v2 l2) (k1 : RInts w u1 m1) (k2 : RInts w u2 m2) :
    Calls Tryz.prog 10 #[.agg #[v1, v2], .agg #[u1, u2]] w fun e w' => e = .returned (.bool (decide (l1 = m1) && decide (l2 = m2))) ∧ Below w.heap.size w w' := by
  by_cases e1 : l1 = m1
  · have d1 : decide (l1 = m1) = true := by simpa using e1
    have D1 := Lib.hid d1
    clear e1 d1
    go_enter Tryz.func10, Tryz.ntmps10
    go_wp2_with (first
      | (go_at_call 32; ((with_reducible refine (sameInts_any v1 u1 l1 m1 _ Rd Rd).mono ?_); rintro e w' ⟨rfl, rfl⟩; rw [D1.out]))
      | (go_at_call 32; ((with_reducible refine (sameInts_any v2 u2 l2 m2 _ Rd Rd).mono ?_); rintro e w' ⟨rfl, rfl⟩)))
    go_ret
    exact ⟨by rw [D1.out]; simp, Bl⟩
  · have d1 : decide (l1 = m1) = false := by simpa using e1
    have D1 := Lib.hid d1
    clear e1 d1
    go_enter Tryz.func10, Tryz.ntmps10
    go_wp2_with (go_at_call 32; ((with_reducible refine (sameInts_any v1 u1 l1 m1 _ Rd Rd).mono ?_); rintro e w' ⟨rfl, rfl⟩; rw [D1.out]))
    go_ret
    exact ⟨by rw [D1.out]; simp, Bl⟩
end Go.Proofs.YtgfnoinkajfndaaGreat

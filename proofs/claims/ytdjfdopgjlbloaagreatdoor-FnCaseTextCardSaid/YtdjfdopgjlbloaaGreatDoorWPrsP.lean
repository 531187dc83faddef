/- Walks: spec.l16Parse. -/
import Derived.Test.YtdjfdopgjlbloaaGreatDoorWPrsS
import Derived.Handy
import Derived.Deep.DeepMust
namespace Go.Proofs.YtdjfdopgjlbloaaGreatDoor
open Go.RowKit

theorem strs_at {w : World} {B : Nat} {v : Value} {l : List (List UInt8)} (h : w.ownsRow B 9 1 v l.length (strs l)) (hl : 0 < l.length) :
    ∃ g cap, v = .slice (some ⟨g, 0, none⟩) l.length cap ∧ B ≤ g ∧ g < w.heap.size ∧ ∀ i, i < l.length → w.cell? ⟨g, i, none⟩ = some (.string (btx (gd l i))) := by
  have h' := h
  rcases h.2 with ⟨e, h1⟩ | ⟨g, cap, cur, hv, hb, h1, _⟩
  · omega
  · subst hv
    refine ⟨g, cap, rfl, hb, (Array.getElem?_eq_some_iff.1 h1).1, fun i hi => ?_⟩
    rw [h'.cellAt i (by omega), strs, List.getElem?_map, gd_of hi, List.getElem?_eq_getElem hi]; rfl
theorem numT_dash {n : Int} (h : numT n = [45]) (h0 : -1 ≤ n) (h8 : n ≤ 8) : n = -1 := by
  by_cases hn : n < 0
  · omega
  · rw [numT, if_neg hn] at h
    have : (UInt8.ofNat (48 + n.toNat)).toNat = 48 + n.toNat := by simp; omega
    have h2 := congrArg (fun l : List UInt8 => (l.headD 0).toNat) h
    simp only [List.headD_cons] at h2
    rw [this] at h2
    exact absurd h2 (by intro e; have : (45 : UInt8).toNat = 45 := rfl; omega)
theorem btx_toList (x : List UInt8) : (btx x).toList = x := by rw [ByteArray.toList_eq]; simp [btx]
theorem btx_leq (x y : List UInt8) : ((btx x).toList == (btx y).toList) = decide (x = y) := by
  rw [btx_toList, btx_toList]
  by_cases h : x = y
  · simp [h]
  · rw [decide_eq_false h]; exact beq_eq_false_iff_ne.2 h
theorem joinT_mem_len (c : UInt8) : ∀ {l : List (List UInt8)} {x : List UInt8}, x ∈ l → x.length ≤ (joinT c l).length
  | [y], x, h => by simp at h; subst h; exact Nat.le_refl _
  | y :: z :: r, x, h => by
    rw [joinT_cons c y (by simp), List.length_append, List.length_cons]
    rcases List.mem_cons.1 h with rfl | h
    · omega
    · have := joinT_mem_len c h; omega
theorem cut_short {c : UInt8} {t x : List UInt8} (h : x ∈ cutL c t) : x.length ≤ t.length := by
  have := joinT_mem_len c h
  rwa [join_cut] at this
/-- Read so far. -/
structure ReadTo (ps : List (List UInt8)) (k : Nat) (l : List Int) : Prop where
  len : l.length = k
  at_ : ∀ i (n : Int), i < k → -1 ≤ n → n ≤ 8 → gd ps i = numT n → gi l i = n
theorem ReadTo.step {ps : List (List UInt8)} {k : Nat} {l : List Int} (h : ReadTo ps k l) {x : Int} (hx : ∀ n : Int, -1 ≤ n → n ≤ 8 → gd ps k = numT n → x = n) : ReadTo ps (k + 1) (l ++ [x]) :=
  ⟨by simp [h.len], fun i n hi h0 h1 e => by
    by_cases hk : i < k
    · rw [gi_gd, gd_app1 (by rw [h.len]; exact hk)]; exact h.at_ i n hk h0 h1 e
    · obtain rfl : i = k := by omega
      rw [gi_gd, gd_app2 (by rw [h.len]; exact Nat.le_refl _), h.len, Nat.sub_self]
      exact hx n h0 h1 e⟩
attribute [local go_sem] btx_45 btx_nil
set_option maxRecDepth 100000 in
set_option maxHeartbeats 3200000 in
theorem parseS_any (t : List UInt8) (c : UInt8) (w : World) (hl : t.length ≤ 1048576) :
    Calls Tryz.prog 28 #[.string (btx t), .int .u8 c.toNat] w fun e w' => ∃ (v : Value) (l : List Int), e = .returned v ∧ ((t = [] → l = []) ∧ (t ≠ [] → ReadTo (cutL c t) (min (cutL c t).length 9) l)) ∧ w'.ownsRow w.heap.size 3 1 v l.length (ints l) ∧ Below w.heap.size w w' := by
  by_cases h0 : t = []
  · have j0 : ((btx t).toList == (btx []).toList) = true := by rw [btx_leq, h0]; rfl
    go_enter Tryz.func28, Tryz.ntmps28
    go_wp2
    go_ret
    exact ⟨_, [], rfl, ⟨fun _ => rfl, fun h => absurd h0 h⟩, World.ownsRow_lit (size := 1) w #[] 0 (Nat.le_refl _) (by decide) (by simp) (e := 3), Bl⟩
  · have j0b : ((btx t).toList == (btx []).toList) = false := by rw [btx_leq]; exact decide_eq_false h0
    have hown0 := World.ownsRow_lit (base := w.heap.size) (size := 1) w #[] 0 (Nat.le_refl _) (by decide) (by simp) (e := 3)
    have H0 := Lib.hid h0
    clear h0
    go_enter Tryz.func28, Tryz.ntmps28
    go_wp2_with fail
    refine (cutS_any t c _ hl).mono ?_
    rintro e w2 ⟨v, rfl, hrow, hb⟩
    have hne : 0 < (cutL c t).length := List.length_pos_iff.2 (cutL_ne c t)
    obtain ⟨g, cap, rfl, hg1, hg2, hcell⟩ := strs_at hrow hne
    replace hown0 := own_keep hown0 hb
    replace hb := bt (below_alloc w _) hb
    rw [World.size_alloc] at hg1
    have hcl := cutL_len c t
    have hsub : ∀ x ∈ cutL c t, x.length ≤ 1048576 := fun x hx => Nat.le_trans (cut_short hx) hl
    obtain ⟨ps, hps⟩ : ∃ ps, cutL c t = ps := ⟨_, rfl⟩
    rw [hps] at hne hcell hcl hsub hrow ⊢
    have HPS := Lib.hid hps
    have HC := Lib.hid hcell
    have HSUB := Lib.hid hsub
    obtain ⟨m, hm⟩ : ∃ m, ps.length = m := ⟨_, rfl⟩
    have HM := Lib.hid hm
    rw [hm] at hne hcl ⊢
    clear hps hcell hsub hrow hm
    go_wp2
    go_loopg [5, 7] m (fun q v i wr => ∃ (k : Nat) (l : List Int), k + q = m ∧ k ≤ 9 ∧ i = .int .i64 k ∧ ReadTo ps k l ∧ wr.ownsRow w.heap.size 3 1 v l.length (ints l) ∧ (∀ b, some b = v.ownBlock → b ≠ g) ∧ Below w.heap.size w wr ∧ g < wr.heap.size ∧ (∀ i, i < m → wr.cell? ⟨g, i, none⟩ = some (.string (btx (gd ps i)))))
    case atStart => exact ⟨0, [], by omega, by omega, rfl, ⟨rfl, fun i n hi => by omega⟩, hown0, fun b hb => by simp [Value.ownBlock] at hb; omega, hb, hg2, fun i hi => HC.out i (by rw [HM.out]; exact hi)⟩
    case round =>
      clear hown0 hb hg2
      obtain ⟨k, l, hk, hk9, rfl, hrd, hown, hnb, hb, hg2, hce⟩ := hrel
      have HK := Lib.hid hk
      have HRD := Lib.hid hrd
      have HNB := Lib.hid hnb
      have HCE := Lib.hid hce
      have hll := hrd.len
      have HLL := Lib.hid hll
      clear hk hrd hnb hce hll
      by_cases hk8 : k < m
      · have i1 : (k : Int) < (m : Int) := by omega
        by_cases h9 : k ≤ 8
        · have i2 : decide ((k : Int) ≤ 8) = true := by simp; omega
          have hp := HCE.out k hk8
          have hxl := HSUB.out (gd ps k) (gd_mem (by rw [HM.out]; exact hk8))
          obtain ⟨x, hx⟩ : ∃ x, gd ps k = x := ⟨_, rfl⟩
          rw [hx] at hp hxl
          have HX := Lib.hid hx
          clear hx
          go_wp2_with fail
          refine (numS_any x _ hxl).mono ?_
          rintro e w3 ⟨y, fl, rfl, hy, hb3⟩
          have HY := Lib.hid hy
          clear hy
          have hp3 := cell_keep hb3 hp
          have hown3 := own_keep hown hb3
          have hg3 : g < w3.heap.size := Nat.lt_of_lt_of_le hg2 hb3.size
          have hs3 := bt hb hb3
          have HCE3 := Lib.hid (fun i (hi : i < m) => cell_keep hb3 (HCE.out i hi))
          clear hp
          have hs := hs3.size
          by_cases hd : x = [45]
          · have j1 : ((btx x).toList == (btx [45]).toList) = true := by rw [btx_leq, hd]; rfl
            have HV := Lib.hid (HRD.out.step (x := -1) fun n h0 h8 e => (numT_dash (by rw [← e, HX.out, hd]) h0 h8).symm)
            clear hd
            go_wp2_with (at_builtin; go_must (refine app_int2 _ rfl _ _ rfl w.heap.size _ l rfl (own_keep hown3 (below_alloc _ _)) ⟨w3.heap.size, 0, none⟩ (-1) rfl (cell_new1 _ _ _) (by rw [HLL.out]; omega) (by simp; omega) ?_); intro v' w1 hown1 hf1 hnb1)
            go_roundg (gk - 1)
            case rel => exact ⟨k + 1, l ++ [-1], by have := HK.out; omega, by omega, by go_num, HV.out, hown1, fun b hb => by rcases hnb1 b hb with h | h; exact HNB.out b h; simp at h; omega, below_own (own_keep hown3 (below_alloc _ _)) hf1 (hs3.trans ((below_alloc _ _).mono hs)) (by simp; omega), by have := hf1.size; simp at this; omega, fun i hi => hf1.cell (fun e => HNB.out g e rfl) (cell_keep (below_alloc _ _) (HCE3.out i hi))⟩
            case measure => have := HK.out; omega
          · have j1b : ((btx x).toList == (btx [45]).toList) = false := by rw [btx_leq]; exact decide_eq_false hd
            have HV := Lib.hid (HRD.out.step (x := y) fun n h0 h8 e => by
              rw [HX.out] at e
              by_cases hn : n < 0
              · exact absurd (by rw [e, numT, if_pos hn]) hd
              · exact HY.out n (by omega) h8 e)
            clear hd
            go_wp2_with (at_builtin; go_must (refine app_int2 _ rfl _ _ rfl w.heap.size _ l rfl (own_keep hown3 (below_alloc _ _)) ⟨w3.heap.size, 0, none⟩ y rfl (cell_new1 _ _ _) (by rw [HLL.out]; omega) (by simp; omega) ?_); intro v' w1 hown1 hf1 hnb1)
            go_roundg (gk - 1)
            case rel => exact ⟨k + 1, l ++ [y], by have := HK.out; omega, by omega, by go_num, HV.out, hown1, fun b hb => by rcases hnb1 b hb with h | h; exact HNB.out b h; simp at h; omega, below_own (own_keep hown3 (below_alloc _ _)) hf1 (hs3.trans ((below_alloc _ _).mono hs)) (by simp; omega), by have := hf1.size; simp at this; omega, fun i hi => hf1.cell (fun e => HNB.out g e rfl) (cell_keep (below_alloc _ _) (HCE3.out i hi))⟩
            case measure => have := HK.out; omega
        · have i2 : decide ((k : Int) ≤ 8) = false := by simp; omega
          have hr : ReadTo ps (min ps.length 9) l := by rw [HM.out, show min m 9 = k by omega]; exact HRD.out
          have HR := Lib.hid hr
          clear hr
          go_wp2
          go_ret
          exact ⟨_, l, rfl, ⟨fun e => absurd e H0.out, fun _ => by rw [HPS.out]; exact HR.out⟩, hown, hb⟩
      · have i1 : ¬ (k : Int) < (m : Int) := by omega
        have hr : ReadTo ps (min ps.length 9) l := by rw [HM.out, show min m 9 = k by have := HK.out; omega]; exact HRD.out
        have HR := Lib.hid hr
        clear hr
        go_wp2
        go_ret
        exact ⟨_, rfl, l, ⟨fun e => absurd e H0.out, fun _ => by rw [HPS.out]; exact HR.out⟩, hown, hb⟩
end Go.Proofs.YtdjfdopgjlbloaaGreatDoor

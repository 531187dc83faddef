/- Walks: sizes, copies and marks of facts and atoms. -/
import Derived.Test.YtnhhfbhhglhocaaOwn
import Derived.Test.YtnhhfbhhglhocaaLf1
import Derived.Test.YtnhhfbhhglhocaaFrameB
namespace Go.Proofs.Ytnhhfbhhglhocaa
open Go.RowKit

theorem nth_len {sz n k : Nat} {xs : List Value} (h : xs.length = n * sz) (hk : k < n) : (nth sz xs k).length = sz := by
  have : (k + 1) * sz ≤ n * sz := Nat.mul_le_mul_right _ hk
  rw [Nat.succ_mul] at this
  rw [nth, List.length_take, List.length_drop]; omega
theorem nth_set {sz k j i : Nat} {xs : List Value} {u : Value} (hj : j < sz) : nth sz (xs.set (k * sz + j) u) i = if i = k then (nth sz xs k).set j u else nth sz xs i := by
  apply List.ext_getElem?
  intro m
  by_cases hm : m < sz
  · have e : ∀ l : List Value, ∀ i, (nth sz l i)[m]? = l[i * sz + m]? := fun l i => by
      rw [nth, List.getElem?_take, if_pos hm, List.getElem?_drop]
    rw [e, List.getElem?_set]
    by_cases hik : i = k
    · subst hik
      rw [if_pos rfl, List.getElem?_set]
      by_cases hjm : j = m
      · subst hjm
        rw [if_pos rfl, if_pos rfl]
        have hl : (nth sz xs i).length = min sz (xs.length - i * sz) := by rw [nth, List.length_take, List.length_drop]
        by_cases hlt : i * sz + j < xs.length
        · rw [if_pos hlt, if_pos (by rw [hl]; omega)]
        · rw [if_neg hlt, if_neg (by rw [hl]; omega)]
      · rw [if_neg hjm, if_neg (by omega), e]
    · rw [if_neg hik, e, if_neg]
      intro h
      rcases Nat.lt_or_gt_of_ne hik with h1 | h1
      · have : (i + 1) * sz ≤ k * sz := Nat.mul_le_mul_right _ h1
        rw [Nat.succ_mul] at this; omega
      · have : (k + 1) * sz ≤ i * sz := Nat.mul_le_mul_right _ h1
        rw [Nat.succ_mul] at this; omega
  · have e : ∀ l : List Value, ∀ i, (nth sz l i)[m]? = none := fun l i => by
      rw [nth, List.getElem?_take, if_neg hm]
    rw [e]
    split
    · rw [List.getElem?_set]
      split
      · rename_i h; omega
      · rw [e]
    · rw [e]
theorem set3 {l : List Value} (h : l.length = 3) (a b c : Value) : ((l.set 0 a).set 1 b).set 2 c = [a, b, c] := by
  match l, h with
  | [_, _, _], _ => rfl
theorem set2 {l : List Value} (h : l.length = 2) (a b : Value) : (l.set 0 a).set 1 b = [a, b] := by
  match l, h with
  | [_, _], _ => rfl
theorem nth_set0 {sz k i : Nat} {xs : List Value} {u : Value} (h : 0 < sz) : nth sz (xs.set (k * sz) u) i = if i = k then (nth sz xs k).set 0 u else nth sz xs i := nth_set (j := 0) h
theorem nth_set3 {n k i : Nat} {xs : List Value} (h : xs.length = n * 3) (hk : k < n) (a b c : Value) :
    nth 3 (((xs.set (k * 3) a).set (k * 3 + 1) b).set (k * 3 + 2) c) i = if i = k then [a, b, c] else nth 3 xs i := by
  rw [nth_set (by omega)]
  by_cases e : i = k
  · rw [if_pos e, if_pos e, nth_set (by omega), if_pos rfl, nth_set0 (by omega), if_pos rfl, set3 (nth_len h hk)]
  · rw [if_neg e, if_neg e, nth_set (by omega), if_neg e, nth_set0 (by omega), if_neg e]
theorem nth_set2 {n k i : Nat} {xs : List Value} (h : xs.length = n * 2) (hk : k < n) (a b : Value) :
    nth 2 ((xs.set (k * 2) a).set (k * 2 + 1) b) i = if i = k then [a, b] else nth 2 xs i := by
  rw [nth_set (by omega)]
  by_cases e : i = k
  · rw [if_pos e, if_pos e, nth_set0 (by omega), if_pos rfl, set2 (nth_len h hk)]
  · rw [if_neg e, if_neg e, nth_set0 (by omega), if_neg e]
theorem row_form {w : World} {B e sz n : Nat} {v : Value} {xs : List Value} (h : w.ownsRow B e sz v n xs) : ∃ a cap, v = .slice a n cap ∧ (∀ i, i < n → ∃ g, a = some ⟨g, 0, none⟩) := by
  rcases h.2 with ⟨rfl, rfl⟩ | ⟨g, cap, cur, rfl, _⟩
  · exact ⟨none, 0, rfl, fun i hi => by omega⟩
  · exact ⟨_, cap, rfl, fun _ _ => ⟨g, rfl⟩⟩
theorem row_cell {w : World} {B e sz n g cap j : Nat} {xs : List Value} (h : w.ownsRow B e sz (.slice (some ⟨g, 0, none⟩) n cap) n xs) (hj : j < n * sz) : ∃ u, w.cell? ⟨g, j, none⟩ = some u := by
  refine ⟨xs[j]'(by rw [h.1]; exact hj), ?_⟩
  rw [h.cellAt j hj]
  exact List.getElem?_eq_getElem _
/-- Flat elements that are known one by one. -/
theorem flat_OL {α : Type} [Own α] [Tid α] {w : World} {B : Nat} {v : Value} {l : List α} {xs : List Value} {c : α → List Value} (hc : ∀ (w : World) (B : Nat) (a : α), Own.own w B a (c a) [])
    (hr : w.ownsRow B (Tid.tid α) (Dat.sz α) v l.length xs) (h : ∀ i, i < l.length → nth (Dat.sz α) xs i = c (gd l i)) : OL w B v l v.ownBlock.toList := by
  refine ⟨xs, List.replicate l.length [], hr, by simp, by simp, fun i hi => ?_⟩
  rw [h i hi, show gd (List.replicate l.length ([] : List Nat)) i = [] by simp [gd, hi]]
  exact hc w B _
theorem OL.row {α : Type} [Own α] [Tid α] {w : World} {B : Nat} {v : Value} {l : List α} {fp : List Nat} (h : OL w B v l fp) (hf : ∀ {w B a cs fp}, Own.own (α := α) w B a cs fp → fp = []) :
    (∃ xs, w.ownsRow B (Tid.tid α) (Dat.sz α) v l.length xs) ∧ fp = v.ownBlock.toList := by
  obtain ⟨xs, fps, hr, hl, rfl, ho⟩ := h
  refine ⟨⟨xs, hr⟩, ?_⟩
  have : fps.flatten = [] := by
    rw [List.flatten_eq_nil_iff]
    intro f hf2
    obtain ⟨i, hi, rfl⟩ := List.getElem_of_mem hf2
    rw [← gd_of hi]
    exact hf (ho i (by omega))
  rw [this, List.append_nil]
def cFact (f : Fact) : List Value := [.bool f.1, .int .i64 f.2.1, .int .i64 f.2.2]
def cAtom (f : Atom) : List Value := [.int .i64 f.1, .int .i64 f.2.1, .int .i64 f.2.2]
theorem own_cFact (w : World) (B : Nat) (f : Fact) : Own.own w B f (cFact f) [] := ⟨[.bool f.1], [.int .i64 f.2.1, .int .i64 f.2.2], [], [], rfl, rfl, ⟨rfl, rfl⟩, [.int .i64 f.2.1], [.int .i64 f.2.2], [], [], rfl, rfl, ⟨rfl, rfl⟩, rfl, rfl⟩
theorem own_cAtom (w : World) (B : Nat) (f : Atom) : Own.own w B f (cAtom f) [] := ⟨[.int .i64 f.1], [.int .i64 f.2.1, .int .i64 f.2.2], [], [], rfl, rfl, ⟨rfl, rfl⟩, [.int .i64 f.2.1], [.int .i64 f.2.2], [], [], rfl, rfl, ⟨rfl, rfl⟩, rfl, rfl⟩
theorem fp_fact {w : World} {B : Nat} {a : Fact} {cs : List Value} {fp : List Nat} (h : Own.own w B a cs fp) : fp = [] := by
  obtain ⟨_, _, _, _, _, rfl, ⟨_, rfl⟩, _, _, _, _, _, rfl, ⟨_, rfl⟩, _, rfl⟩ := h; rfl
theorem fp_atom {w : World} {B : Nat} {a : Atom} {cs : List Value} {fp : List Nat} (h : Own.own w B a cs fp) : fp = [] := by
  obtain ⟨_, _, _, _, _, rfl, ⟨_, rfl⟩, _, _, _, _, _, rfl, ⟨_, rfl⟩, _, rfl⟩ := h; rfl
/-- The marks of the i-th element. -/
def mkFact (k : Int) (i : Nat) : Fact := (k % 3 == 0, k + 3 * i + 1, k + 3 * i + 1 + 1)
def mkAtom (k : Int) (i : Nat) : Atom := (k + 3 * i, k + 3 * i + 1, k + 3 * i + 1 + 1)
def mkFacts (k : Int) (n : Nat) : List Fact := (List.range n).map (mkFact k)
def mkAtoms (k : Int) (n : Nat) : List Atom := (List.range n).map (mkAtom k)
theorem mkFacts_len (k : Int) (n : Nat) : (mkFacts k n).length = n := by simp [mkFacts]
theorem mkAtoms_len (k : Int) (n : Nat) : (mkAtoms k n).length = n := by simp [mkAtoms]
theorem gd_mkFacts {k : Int} {n i : Nat} (h : i < n) : gd (mkFacts k n) i = mkFact k i := by rw [gd_of (by rw [mkFacts_len]; exact h)]; simp [mkFacts]
theorem gd_mkAtoms {k : Int} {n i : Nat} (h : i < n) : gd (mkAtoms k n) i = mkAtom k i := by rw [gd_of (by rw [mkAtoms_len]; exact h)]; simp [mkAtoms]
theorem info_fact : (Try.prog.info? 153).map (fun i => (i.zero, i.size, i.bytes)) = some (some (.agg #[.bool false, .int .i64 0, .int .i64 0]), 3, 24) := by kernel_rfl
theorem info_atom : (Try.prog.info? 134).map (fun i => (i.zero, i.size, i.bytes)) = some (some (.agg #[.int .i64 0, .int .i64 0, .int .i64 0]), 3, 24) := by kernel_rfl
set_option maxHeartbeats 400000 in
theorem szFactS_fit (a : Option Addr) (n cap : Nat) (left : Int) (w : World) (h1 : left ≤ 1048576) (hn : (n : Int) ≤ left) :
    Calls Try.prog 96 #[.slice a n cap, .int .i64 left] w fun e w' => e = .returned (.int .i64 (left - n)) ∧ w = w' := by
  go_enter Try.func96, Try.ntmps96
  go_wp2
  go_ret
  simp
set_option maxHeartbeats 400000 in
theorem szFactS_big (a : Option Addr) (n cap : Nat) (left : Int) (w : World) (h0 : 0 ≤ left) (h1 : left < n) (hn : n ≤ maxLen) :
    Calls Try.prog 96 #[.slice a n cap, .int .i64 left] w fun e w' => e = .returned (.int .i64 (-1)) ∧ w = w' := by
  unfold maxLen at hn
  go_enter Try.func96, Try.ntmps96
  go_wp2
  go_ret
  simp
set_option maxHeartbeats 800000 in
theorem toFact_any (f : Fact) (w : World) :
    Calls Try.prog 146 #[.agg #[.bool f.1, .int .i64 f.2.1, .int .i64 f.2.2]] w fun e w' => e = .returned (.agg #[.bool f.1, .int .i64 f.2.1, .int .i64 f.2.2]) ∧ Below w.heap.size w w' := by
  go_enter Try.func146, Try.ntmps146
  go_wp2
  refine bodyPost_ret (v := .agg #[.bool f.1, .int .i64 f.2.1, .int .i64 f.2.2]) (by simp [results, Try.results146, go_sem]) rfl ⟨rfl, ?_⟩
  exact (by repeat (first | exact Below.refl _ _ | with_reducible assumption | exact below_alloc _ _ | (refine Below.setCell ?_ (by first | (simp; done) | (simp; omega) | omega) _) | apply bd | apply ba | apply be))
set_option maxHeartbeats 1600000 in
theorem toFactS_any {S : Nat → Prop} (v : Value) (l : List Fact) (w : World) (h : RL w S v l) (hl : l.length ≤ 1048576) :
    Calls Try.prog 102 #[v] w fun e w' => ∃ v', e = .returned v' ∧ OO w' w.heap.size v' l ∧ Below w.heap.size w w' := by
  obtain ⟨a1, c1, rfl, _, _, hf1⟩ := h.factAt
  have F1 := Lib.hid hf1
  clear hf1 h
  obtain ⟨i0, hi, hz0, hz1, hz2⟩ := info_parts info_fact
  go_enter Try.func102, Try.ntmps102
  go_wp2_with (at_make; refine wpList_make_full _ rfl _ _ 64 rfl w.heap.size 153 i0 (.agg #[.bool false, .int .i64 0, .int .i64 0]) 3 Try.underlying64 hi hz0 hz1 _ _ _ _ l.length rfl rfl rfl rfl (by rw [hz2]; omega) (by unfold maxLen; omega) (Nat.le_refl _) ?_; intro w1 hown hgr)
  have hb1 := (grown_fr hgr).below (B := w.heap.size) (Nat.le_refl _) (by intro k _ e; cases e)
  obtain ⟨xs0, hown0⟩ : ∃ xs, w1.ownsRow w.heap.size 153 3 (.slice (some ⟨w.heap.size, 0, none⟩) l.length l.length) l.length xs := ⟨_, hown⟩
  clear hown hi hz0 hz1 hz2 hgr
  go_loopg [4] l.length (fun q i wr => ∃ (k : Nat) (xs : List Value), k + q = l.length ∧ i = .int .i64 k ∧ wr.ownsRow w.heap.size 153 3 (.slice (some ⟨w.heap.size, 0, none⟩) l.length l.length) l.length xs ∧ (∀ i, i < k → nth 3 xs i = cFact (gd l i)) ∧ Below w.heap.size w wr)
  case atStart => exact ⟨0, xs0, by omega, rfl, hown0, fun i hi => by omega, hb1⟩
  case round =>
    clear hb1 hown0
    obtain ⟨k, xs, hk, rfl, hown, hx, hb⟩ := hrel
    have HK := Lib.hid hk
    have HX := Lib.hid hx
    clear hk hx
    by_cases hk8 : k < l.length
    · obtain ⟨b, o, rfl, _, hbl, hp1, hp2, hp3⟩ := F1.out k hk8
      replace hp1 := cell_keep hb hp1; replace hp2 := cell_keep hb hp2; replace hp3 := cell_keep hb hp3
      have hki : (k : Int) < (l.length : Int) := by omega
      have hs := hb.size
      have hzb : b < wr.heap.size := by omega
      have HO := Lib.hid hown
      clear hown
      go_wp2_with fail
      refine (toFact_any (gd l k) _).mono ?_
      rintro e w2 ⟨rfl, hb2⟩
      have hown2 := own_keep HO.out hb2
      obtain ⟨y1, hy1⟩ := row_cell hown2 (j := k * 3) (by omega)
      obtain ⟨y2, hy2⟩ := row_cell hown2 (j := k * 3 + 1) (by omega)
      obtain ⟨y3, hy3⟩ := row_cell hown2 (j := k * 3 + 2) (by omega)
      have hfz : ∀ i, w2.frozen? ⟨w.heap.size, i, none⟩ = false := fun i => hown2.frozenAt i
      obtain ⟨t1, _⟩ := hown2.stored (k * 3) (.bool (gd l k).1)
      obtain ⟨t2, _⟩ := t1.stored (k * 3 + 1) (.int .i64 (gd l k).2.1)
      obtain ⟨t3, _⟩ := t2.stored (k * 3 + 2) (.int .i64 (gd l k).2.2)
      have HT := Lib.hid t3
      have HL := Lib.hid hown2.1
      have hbb := bt hb hb2
      clear t1 t2 t3 hown2 hb2
      go_wp2
      go_roundg (gk - 1)
      case rel =>
        refine ⟨k + 1, _, by have := HK.out; omega, by go_num, HT.out, fun i hi => ?_, (by repeat (first | exact Below.refl _ _ | with_reducible assumption | exact below_alloc _ _ | (refine Below.setCell ?_ (by first | (simp; done) | (simp; omega) | omega) _) | apply bd | apply ba | apply be))⟩
        rw [nth_set3 HL.out hk8]
        by_cases e : i = k
        · subst e; rw [if_pos rfl]; rfl
        · rw [if_neg e]; exact HX.out i (by omega)
      case measure => have := HK.out; omega
    · obtain rfl : k = l.length := by have := HK.out; omega
      go_wp2
      go_ret
      exact ⟨_, rfl, ⟨_, flat_OL own_cFact hown HX.out, by simp [Value.ownBlock]⟩, hb⟩
set_option maxHeartbeats 1600000 in
theorem markFactS_any (B : Nat) (v : Value) (l : List Fact) (fp : List Nat) (k0 : Int) (w : World) (h : OL w B v l fp) (h0 : 0 ≤ k0) (h1 : k0 ≤ 1099511627776) (hl : l.length ≤ 1048576) :
    Calls Try.prog 76 #[v, .int .i64 k0] w fun e w' => e = .returned (.int .i64 (k0 + 3 * l.length)) ∧ OL w' B v (mkFacts k0 l.length) fp ∧ Fr (fun k => k ∈ fp) w w' := by
  obtain ⟨⟨xs0, hr⟩, hfp⟩ := h.row fp_fact
  obtain ⟨a, cap, rfl, ha⟩ := row_form hr
  have HFP := Lib.hid hfp
  have HR := Lib.hid hr
  clear hfp h hr
  go_enter Try.func76, Try.ntmps76
  go_wp2
  go_loopg [1, 5] l.length (fun q x i wr => ∃ (k : Nat) (xs : List Value), k + q = l.length ∧ i = .int .i64 k ∧ x = .int .i64 (k0 + 3 * k) ∧ wr.ownsRow B 153 3 (.slice a l.length cap) l.length xs ∧ (∀ i, i < k → nth 3 xs i = cFact (mkFact k0 i)) ∧ Fr (fun k => k ∈ fp) w wr)
  case atStart => exact ⟨0, xs0, by omega, rfl, by simp, HR.out, fun i hi => by omega, Fr.refl _ _⟩
  case round =>
    obtain ⟨k, xs, hk, rfl, rfl, hown, hx, hf⟩ := hrel
    have HK := Lib.hid hk
    have HX := Lib.hid hx
    have HF := Lib.hid hf
    clear hk hx hf
    by_cases hk8 : k < l.length
    · obtain ⟨g, rfl⟩ := ha k hk8
      have hki : (k : Int) < (l.length : Int) := by omega
      have hk0 : 0 ≤ k0 + 3 * (k : Int) := by omega
      have hk1 : k0 + 3 * (k : Int) ≤ 2199023255552 := by omega
      obtain ⟨y1, hy1⟩ := row_cell hown (j := k * 3) (by omega)
      obtain ⟨y2, hy2⟩ := row_cell hown (j := k * 3 + 1) (by omega)
      obtain ⟨y3, hy3⟩ := row_cell hown (j := k * 3 + 2) (by omega)
      have hfz : ∀ i, wr.frozen? ⟨g, i, none⟩ = false := fun i => hown.frozenAt i
      obtain ⟨t1, g1⟩ := hown.stored (k * 3) (.bool (k0 % 3 == 0))
      obtain ⟨t2, g2⟩ := t1.stored (k * 3 + 1) (.int .i64 (k0 + 3 * k + 1))
      obtain ⟨t3, g3⟩ := t2.stored (k * 3 + 2) (.int .i64 (k0 + 3 * k + 1 + 1))
      have hgm : g ∈ fp := by rw [HFP.out]; simp [Value.ownBlock]
      have HT := Lib.hid t3
      have HG := Lib.hid (((grown_fr g1).trans (grown_fr g2)).trans (grown_fr g3))
      have HL := Lib.hid hown.1
      clear t1 t2 t3 hown g1 g2 g3
      go_wp2
      go_roundg (gk - 1)
      case rel =>
        refine ⟨k + 1, _, by have := HK.out; omega, by go_num, by rw [show k0 + 3 * ((k + 1 : Nat) : Int) = k0 + 3 * (k : Int) + 1 + 1 + 1 by omega], HT.out, fun i hi => ?_, HF.out.trans (HG.out.mono fun j _ e => by have e' : j = g := (by simpa using e); rw [e']; exact hgm)⟩
        rw [nth_set3 HL.out hk8]
        by_cases e : i = k
        · subst e; rw [if_pos rfl]; rfl
        · rw [if_neg e]; exact HX.out i (by omega)
      case measure => have := HK.out; omega
    · obtain rfl : k = l.length := by have := HK.out; omega
      go_wp2
      go_ret
      refine ⟨rfl, ?_, HF.out⟩
      rw [HFP.out]
      exact flat_OL own_cFact (by rw [mkFacts_len]; exact hown) (fun i hi => by rw [mkFacts_len] at hi; rw [gd_mkFacts hi]; exact HX.out i hi)
set_option maxHeartbeats 1600000 in
theorem heldFactS_any {S : Nat → Prop} (v : Value) (n : Nat) (k0 : Int) (w : World) (h : RL w S v (mkFacts k0 n)) (h0 : 0 ≤ k0) (h1 : k0 ≤ 1099511627776) (hn : n ≤ 1048576) :
    Calls Try.prog 78 #[v, .int .i64 k0] w fun e w' => e = .returned (.int .i64 (k0 + 3 * n)) ∧ w = w' := by
  obtain ⟨a1, c1, rfl, _, _, hf1⟩ := h.factAt
  rw [mkFacts_len] at hf1 ⊢
  have F1 := Lib.hid hf1
  clear hf1 h
  go_enter Try.func78, Try.ntmps78
  go_wp2
  go_loopg [1, 5] n (fun q x i wr => ∃ k : Nat, k + q = n ∧ i = .int .i64 k ∧ x = .int .i64 (k0 + 3 * k) ∧ w = wr)
  case atStart => exact ⟨0, by omega, rfl, by simp, rfl⟩
  case round =>
    obtain ⟨k, hk, rfl, rfl, rfl⟩ := hrel
    have HK := Lib.hid hk
    clear hk
    by_cases hk8 : k < n
    · obtain ⟨b, o, rfl, _, hbl, hc1, hc2, hc3⟩ := F1.out k hk8
      rw [gd_mkFacts hk8] at hc1 hc2 hc3
      simp only [mkFact] at hc1 hc2 hc3
      have hki : (k : Int) < (n : Int) := by omega
      have hk0 : 0 ≤ k0 + 3 * (k : Int) := by omega
      have hk1 : k0 + 3 * (k : Int) ≤ 2199023255552 := by omega
      have hq : ((k0 % 3 == 0) == (k0 % 3 == 0)) = true := by simp
      go_wp2
      go_roundg (gk - 1)
      case rel => exact ⟨k + 1, by have := HK.out; omega, by go_num, by rw [show k0 + 3 * ((k + 1 : Nat) : Int) = k0 + 3 * (k : Int) + 1 + 1 + 1 by omega], rfl⟩
      case measure => have := HK.out; omega
    · obtain rfl : k = n := by have := HK.out; omega
      go_wp2
      go_ret
      exact ⟨rfl, rfl⟩
set_option maxHeartbeats 400000 in
theorem szAtomS_fit (a : Option Addr) (n cap : Nat) (left : Int) (w : World) (h1 : left ≤ 1048576) (hn : (n : Int) ≤ left) :
    Calls Try.prog 97 #[.slice a n cap, .int .i64 left] w fun e w' => e = .returned (.int .i64 (left - n)) ∧ w = w' := by
  go_enter Try.func97, Try.ntmps97
  go_wp2
  go_ret
  simp
set_option maxHeartbeats 400000 in
theorem szAtomS_big (a : Option Addr) (n cap : Nat) (left : Int) (w : World) (h0 : 0 ≤ left) (h1 : left < n) (hn : n ≤ maxLen) :
    Calls Try.prog 97 #[.slice a n cap, .int .i64 left] w fun e w' => e = .returned (.int .i64 (-1)) ∧ w = w' := by
  unfold maxLen at hn
  go_enter Try.func97, Try.ntmps97
  go_wp2
  go_ret
  simp
set_option maxHeartbeats 800000 in
theorem toAtom_any (f : Atom) (w : World) :
    Calls Try.prog 147 #[.agg #[.int .i64 f.1, .int .i64 f.2.1, .int .i64 f.2.2]] w fun e w' => e = .returned (.agg #[.int .i64 f.1, .int .i64 f.2.1, .int .i64 f.2.2]) ∧ Below w.heap.size w w' := by
  go_enter Try.func147, Try.ntmps147
  go_wp2
  refine bodyPost_ret (v := .agg #[.int .i64 f.1, .int .i64 f.2.1, .int .i64 f.2.2]) (by simp [results, Try.results147, go_sem]) rfl ⟨rfl, ?_⟩
  exact (by repeat (first | exact Below.refl _ _ | with_reducible assumption | exact below_alloc _ _ | (refine Below.setCell ?_ (by first | (simp; done) | (simp; omega) | omega) _) | apply bd | apply ba | apply be))
set_option maxHeartbeats 1600000 in
theorem toAtomS_any {S : Nat → Prop} (v : Value) (l : List Atom) (w : World) (h : RL w S v l) (hl : l.length ≤ 1048576) :
    Calls Try.prog 103 #[v] w fun e w' => ∃ v', e = .returned v' ∧ OO w' w.heap.size v' l ∧ Below w.heap.size w w' := by
  obtain ⟨a1, c1, rfl, _, _, hf1⟩ := h.atomAt
  have F1 := Lib.hid hf1
  clear hf1 h
  obtain ⟨i0, hi, hz0, hz1, hz2⟩ := info_parts info_atom
  go_enter Try.func103, Try.ntmps103
  go_wp2_with (at_make; refine wpList_make_full _ rfl _ _ 65 rfl w.heap.size 134 i0 (.agg #[.int .i64 0, .int .i64 0, .int .i64 0]) 3 Try.underlying65 hi hz0 hz1 _ _ _ _ l.length rfl rfl rfl rfl (by rw [hz2]; omega) (by unfold maxLen; omega) (Nat.le_refl _) ?_; intro w1 hown hgr)
  have hb1 := (grown_fr hgr).below (B := w.heap.size) (Nat.le_refl _) (by intro k _ e; cases e)
  obtain ⟨xs0, hown0⟩ : ∃ xs, w1.ownsRow w.heap.size 134 3 (.slice (some ⟨w.heap.size, 0, none⟩) l.length l.length) l.length xs := ⟨_, hown⟩
  clear hown hi hz0 hz1 hz2 hgr
  go_loopg [4] l.length (fun q i wr => ∃ (k : Nat) (xs : List Value), k + q = l.length ∧ i = .int .i64 k ∧ wr.ownsRow w.heap.size 134 3 (.slice (some ⟨w.heap.size, 0, none⟩) l.length l.length) l.length xs ∧ (∀ i, i < k → nth 3 xs i = cAtom (gd l i)) ∧ Below w.heap.size w wr)
  case atStart => exact ⟨0, xs0, by omega, rfl, hown0, fun i hi => by omega, hb1⟩
  case round =>
    clear hb1 hown0
    obtain ⟨k, xs, hk, rfl, hown, hx, hb⟩ := hrel
    have HK := Lib.hid hk
    have HX := Lib.hid hx
    clear hk hx
    by_cases hk8 : k < l.length
    · obtain ⟨b, o, rfl, _, hbl, hp1, hp2, hp3⟩ := F1.out k hk8
      replace hp1 := cell_keep hb hp1; replace hp2 := cell_keep hb hp2; replace hp3 := cell_keep hb hp3
      have hki : (k : Int) < (l.length : Int) := by omega
      have hs := hb.size
      have hzb : b < wr.heap.size := by omega
      have HO := Lib.hid hown
      clear hown
      go_wp2_with fail
      refine (toAtom_any (gd l k) _).mono ?_
      rintro e w2 ⟨rfl, hb2⟩
      have hown2 := own_keep HO.out hb2
      obtain ⟨y1, hy1⟩ := row_cell hown2 (j := k * 3) (by omega)
      obtain ⟨y2, hy2⟩ := row_cell hown2 (j := k * 3 + 1) (by omega)
      obtain ⟨y3, hy3⟩ := row_cell hown2 (j := k * 3 + 2) (by omega)
      have hfz : ∀ i, w2.frozen? ⟨w.heap.size, i, none⟩ = false := fun i => hown2.frozenAt i
      obtain ⟨t1, _⟩ := hown2.stored (k * 3) (.int .i64 (gd l k).1)
      obtain ⟨t2, _⟩ := t1.stored (k * 3 + 1) (.int .i64 (gd l k).2.1)
      obtain ⟨t3, _⟩ := t2.stored (k * 3 + 2) (.int .i64 (gd l k).2.2)
      have HT := Lib.hid t3
      have HL := Lib.hid hown2.1
      have hbb := bt hb hb2
      clear t1 t2 t3 hown2 hb2
      go_wp2
      go_roundg (gk - 1)
      case rel =>
        refine ⟨k + 1, _, by have := HK.out; omega, by go_num, HT.out, fun i hi => ?_, (by repeat (first | exact Below.refl _ _ | with_reducible assumption | exact below_alloc _ _ | (refine Below.setCell ?_ (by first | (simp; done) | (simp; omega) | omega) _) | apply bd | apply ba | apply be))⟩
        rw [nth_set3 HL.out hk8]
        by_cases e : i = k
        · subst e; rw [if_pos rfl]; rfl
        · rw [if_neg e]; exact HX.out i (by omega)
      case measure => have := HK.out; omega
    · obtain rfl : k = l.length := by have := HK.out; omega
      go_wp2
      go_ret
      exact ⟨_, rfl, ⟨_, flat_OL own_cAtom hown HX.out, by simp [Value.ownBlock]⟩, hb⟩
set_option maxHeartbeats 1600000 in
theorem markAtomS_any (B : Nat) (v : Value) (l : List Atom) (fp : List Nat) (k0 : Int) (w : World) (h : OL w B v l fp) (h0 : 0 ≤ k0) (h1 : k0 ≤ 1099511627776) (hl : l.length ≤ 1048576) :
    Calls Try.prog 77 #[v, .int .i64 k0] w fun e w' => e = .returned (.int .i64 (k0 + 3 * l.length)) ∧ OL w' B v (mkAtoms k0 l.length) fp ∧ Fr (fun k => k ∈ fp) w w' := by
  obtain ⟨⟨xs0, hr⟩, hfp⟩ := h.row fp_atom
  obtain ⟨a, cap, rfl, ha⟩ := row_form hr
  have HFP := Lib.hid hfp
  have HR := Lib.hid hr
  clear hfp h hr
  go_enter Try.func77, Try.ntmps77
  go_wp2
  go_loopg [1, 5] l.length (fun q x i wr => ∃ (k : Nat) (xs : List Value), k + q = l.length ∧ i = .int .i64 k ∧ x = .int .i64 (k0 + 3 * k) ∧ wr.ownsRow B 134 3 (.slice a l.length cap) l.length xs ∧ (∀ i, i < k → nth 3 xs i = cAtom (mkAtom k0 i)) ∧ Fr (fun k => k ∈ fp) w wr)
  case atStart => exact ⟨0, xs0, by omega, rfl, by simp, HR.out, fun i hi => by omega, Fr.refl _ _⟩
  case round =>
    obtain ⟨k, xs, hk, rfl, rfl, hown, hx, hf⟩ := hrel
    have HK := Lib.hid hk
    have HX := Lib.hid hx
    have HF := Lib.hid hf
    clear hk hx hf
    by_cases hk8 : k < l.length
    · obtain ⟨g, rfl⟩ := ha k hk8
      have hki : (k : Int) < (l.length : Int) := by omega
      have hk0 : 0 ≤ k0 + 3 * (k : Int) := by omega
      have hk1 : k0 + 3 * (k : Int) ≤ 2199023255552 := by omega
      obtain ⟨y1, hy1⟩ := row_cell hown (j := k * 3) (by omega)
      obtain ⟨y2, hy2⟩ := row_cell hown (j := k * 3 + 1) (by omega)
      obtain ⟨y3, hy3⟩ := row_cell hown (j := k * 3 + 2) (by omega)
      have hfz : ∀ i, wr.frozen? ⟨g, i, none⟩ = false := fun i => hown.frozenAt i
      obtain ⟨t1, g1⟩ := hown.stored (k * 3) (.int .i64 (k0 + 3 * k))
      obtain ⟨t2, g2⟩ := t1.stored (k * 3 + 1) (.int .i64 (k0 + 3 * k + 1))
      obtain ⟨t3, g3⟩ := t2.stored (k * 3 + 2) (.int .i64 (k0 + 3 * k + 1 + 1))
      have hgm : g ∈ fp := by rw [HFP.out]; simp [Value.ownBlock]
      have HT := Lib.hid t3
      have HG := Lib.hid (((grown_fr g1).trans (grown_fr g2)).trans (grown_fr g3))
      have HL := Lib.hid hown.1
      clear t1 t2 t3 hown g1 g2 g3
      go_wp2
      go_roundg (gk - 1)
      case rel =>
        refine ⟨k + 1, _, by have := HK.out; omega, by go_num, by rw [show k0 + 3 * ((k + 1 : Nat) : Int) = k0 + 3 * (k : Int) + 1 + 1 + 1 by omega], HT.out, fun i hi => ?_, HF.out.trans (HG.out.mono fun j _ e => by have e' : j = g := (by simpa using e); rw [e']; exact hgm)⟩
        rw [nth_set3 HL.out hk8]
        by_cases e : i = k
        · subst e; rw [if_pos rfl]; rfl
        · rw [if_neg e]; exact HX.out i (by omega)
      case measure => have := HK.out; omega
    · obtain rfl : k = l.length := by have := HK.out; omega
      go_wp2
      go_ret
      refine ⟨rfl, ?_, HF.out⟩
      rw [HFP.out]
      exact flat_OL own_cAtom (by rw [mkAtoms_len]; exact hown) (fun i hi => by rw [mkAtoms_len] at hi; rw [gd_mkAtoms hi]; exact HX.out i hi)
set_option maxHeartbeats 1600000 in
theorem heldAtomS_any {S : Nat → Prop} (v : Value) (n : Nat) (k0 : Int) (w : World) (h : RL w S v (mkAtoms k0 n)) (h0 : 0 ≤ k0) (h1 : k0 ≤ 1099511627776) (hn : n ≤ 1048576) :
    Calls Try.prog 79 #[v, .int .i64 k0] w fun e w' => e = .returned (.int .i64 (k0 + 3 * n)) ∧ w = w' := by
  obtain ⟨a1, c1, rfl, _, _, hf1⟩ := h.atomAt
  rw [mkAtoms_len] at hf1 ⊢
  have F1 := Lib.hid hf1
  clear hf1 h
  go_enter Try.func79, Try.ntmps79
  go_wp2
  go_loopg [1, 5] n (fun q x i wr => ∃ k : Nat, k + q = n ∧ i = .int .i64 k ∧ x = .int .i64 (k0 + 3 * k) ∧ w = wr)
  case atStart => exact ⟨0, by omega, rfl, by simp, rfl⟩
  case round =>
    obtain ⟨k, hk, rfl, rfl, rfl⟩ := hrel
    have HK := Lib.hid hk
    clear hk
    by_cases hk8 : k < n
    · obtain ⟨b, o, rfl, _, hbl, hc1, hc2, hc3⟩ := F1.out k hk8
      rw [gd_mkAtoms hk8] at hc1 hc2 hc3
      simp only [mkAtom] at hc1 hc2 hc3
      have hki : (k : Int) < (n : Int) := by omega
      have hk0 : 0 ≤ k0 + 3 * (k : Int) := by omega
      have hk1 : k0 + 3 * (k : Int) ≤ 2199023255552 := by omega
      go_wp2
      go_roundg (gk - 1)
      case rel => exact ⟨k + 1, by have := HK.out; omega, by go_num, by rw [show k0 + 3 * ((k + 1 : Nat) : Int) = k0 + 3 * (k : Int) + 1 + 1 + 1 by omega], rfl⟩
      case measure => have := HK.out; omega
    · obtain rfl : k = n := by have := HK.out; omega
      go_wp2
      go_ret
      exact ⟨rfl, rfl⟩
end Go.Proofs.Ytnhhfbhhglhocaa

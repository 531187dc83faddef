/- Cpy: texts Cp, Free, Same in one. -/
import Derived.Test.YtapoillhgimdiaaQBase1
import Derived.Test.YtapoillhgimdiaaQBase3
import Derived.Test.YtapoillhgimdiaaQDraw1
import Derived.Laws.CopyOwn
import Derived.Deep.RegionHeld3
import Derived.Test.YtapoillhgimdiaaQMath1
/- Walks: copies of lists of integers and of states. -/
namespace Go.Proofs.Ytapoillhgimdiaa
open Go.RowKit

theorem own_row {w : World} {B e g n c : Nat} {xs : List Value} (h : w.ownsRow B e 1 (.slice (some ⟨g, 0, none⟩) n c) n xs) (hc : c = n) : ∃ cur : List Value, cur.length = n ∧ w.heap[g]? = some (.cells cur.toArray e (0, 0)) := by
  subst hc
  rcases h.2 with ⟨hv, _⟩ | ⟨g', cap, cur, hv, _, hg, _, _, hs, _⟩
  · cases hv
  · injection hv with h1 h2 h3
    obtain rfl : g = g' := by injection h1 with h1; injection h1
    subst h3
    exact ⟨cur.toList, by simpa using hs, by simpa using hg⟩
theorem own_of_row {w : World} {B e g n : Nat} {l : List Int} (hB : B ≤ g) (hn : n = l.length) (hm : n ≤ maxLen) (h : w.heap[g]? = some (.cells (ints l).toArray e (0, 0))) : w.ownsRow B e 1 (.slice (some ⟨g, 0, none⟩) n n) n (ints l) := by
  subst hn
  exact ⟨by simp [ints], .inr ⟨g, l.length, (ints l).toArray, rfl, hB, h, Nat.le_refl _, hm, by simp [ints], by rw [List.take_of_length_le (by simp [ints])]⟩⟩
theorem splice_all (cur cs : List Value) (h : cur.length = cs.length) : splice cur 0 cs = cs := by
  simp [splice, h]

theorem rints_news {w : World} {a : Option Addr} {n c : Nat} {l : List Int} (h : RInts w (.slice a n c) l) : 0 < (ints l).length → ∃ ad, a = some ad ∧ ∀ j u, (ints l)[j]? = some u → w.cell? (ad.add j) = some u := by
  intro hl
  have hl' : 0 < l.length := by simpa [ints] using hl
  obtain ⟨b, o, cap, hv, _, _, hc⟩ := h.ne hl'
  injection hv with h1 h2 h3
  refine ⟨_, h1, fun j u hj => ?_⟩
  have hjl : j < l.length := by
    rcases Nat.lt_or_ge j l.length with h | h
    · exact h
    · rw [List.getElem?_eq_none (by simpa [ints] using h)] at hj; cases hj
  have hu : u = .int .i64 (gi l j) := by
    simp [ints, hjl] at hj; rw [gi_of hjl, ← hj]
  have e : (⟨b, o, none⟩ : Addr).add j = ⟨b, o + j, none⟩ := by unfold Addr.add; split <;> simp_all
  rw [e, hc j hjl, hu]
theorem ints_one (l : List Int) : ∀ u ∈ ints l, u.oneCell' = true := by
  intro u hu; simp [ints] at hu; obtain ⟨_, _, rfl⟩ := hu; rfl

set_option maxHeartbeats 800000 in
theorem copyInts_any (v : Value) (l : List Int) (w : World) (h : RInts w v l) (hl : l.length ≤ 1048576) :
    Calls Try.prog 178 #[v] w fun e w' => e = .returned (.slice (some ⟨w.heap.size, 0, none⟩) l.length l.length) ∧ w'.ownsRow w.heap.size 3 1 (.slice (some ⟨w.heap.size, 0, none⟩) l.length l.length) l.length (ints l) ∧ Below w.heap.size w w' := by
  obtain ⟨a, cap, rfl⟩ := h.form
  have H := Lib.hid h
  clear h
  obtain ⟨i0, hi, hz0, hz1, hz2⟩ := info_parts info_int
  have hsz : (Try.prog.info? 3).map (·.size) = some 1 := by rw [hi]; exact congrArg some hz1
  go_enter Try.func178, Try.ntmps178
  go_wp2_with (first
    | (at_make; refine wpList_make_full _ rfl _ _ 41 rfl w.heap.size 3 i0 (.int .i64 0) 1 Try.underlying41 hi hz0 hz1 _ _ _ _ l.length rfl rfl rfl rfl (by rw [hz2]; omega) (by unfold maxLen; omega) (Nat.le_refl _) ?_; intro w1 hown1 hgrow1; obtain ⟨cur, hcl, hcur⟩ := own_row hown1 rfl; have hb1 : Below w.heap.size w w1 := (grown_fr hgrow1).below (Nat.le_refl _) (fun k _ e => by cases e); have HCUR := Lib.hid (And.intro hcl hcur); clear hcl hcur hown1 hgrow1)
    | (refine wpList_copy_splice rfl _ _ _ _ rfl 3 Try.underlying41 hsz _ _ _ _ _ _ rfl rfl w.heap.size 0 cur 3 HCUR.out.2 (ints l) (by simp [ints]) (fun hp => ⟨rfl, rints_news (H.out.keep hb1) hp⟩) (by rw [HCUR.out.1]; simp [ints]) (ints_one l) w.heap.size w hb1 (Nat.le_refl _) ?_; intro w2 HG2 hb2))
  go_ret
  rw [splice_all _ _ (by rw [HCUR.out.1]; simp [ints])] at HG2
  exact ⟨rfl, own_of_row (Nat.le_refl _) rfl (by unfold maxLen; omega) HG2.out, hb2⟩
end Go.Proofs.Ytapoillhgimdiaa
/- Walks: FreeCell. -/
namespace Go.Proofs.Ytapoillhgimdiaa
open Go.RowKit

theorem box_two {w : World} {b : Nat} {u v : Value} (x y : Value) (h0 : w.cell? ⟨b, 0, none⟩ = some u) (h1 : w.cell? ⟨b, 1, none⟩ = some v) :
    ((w.setCell ⟨b, 0, none⟩ x).setCell ⟨b, 1, none⟩ y).cell? ⟨b, 0, none⟩ = some x ∧ ((w.setCell ⟨b, 0, none⟩ x).setCell ⟨b, 1, none⟩ y).cell? ⟨b, 1, none⟩ = some y := by
  constructor
  · rw [World.cell?_setCell_other _ _ _ _ (by simp), World.cell?_setCell_same _ _ _ h0]
  · exact World.cell?_setCell_same _ _ _ (u := v) (by rw [World.cell?_setCell_other _ _ _ _ (by simp)]; exact h1)

end Go.Proofs.Ytapoillhgimdiaa
/- Walks: equal lists and equal states. -/
namespace Go.Proofs.Ytapoillhgimdiaa
open Go.RowKit

end Go.Proofs.Ytapoillhgimdiaa

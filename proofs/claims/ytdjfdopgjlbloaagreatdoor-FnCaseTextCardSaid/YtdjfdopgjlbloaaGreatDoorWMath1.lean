/- Walks: facts that hold for values. -/
import Derived.Test.YtdjfdopgjlbloaaGreatDoorWData3
import Derived.Test.YtdjfdopgjlbloaaGreatDoorWBase1
import Derived.Deep.RegionHeld3
import Derived.Test.YtdjfdopgjlbloaaGreatDoorWDraw1
import Derived.Deep.DeepMust
import Derived.Test.YtdjfdopgjlbloaaGreatDoorWBase3
namespace Go.Proofs.YtdjfdopgjlbloaaGreatDoor
open Go.RowKit

theorem factB_le {f : Fact} (h : factB f = true) : 0 ≤ f.2.1 ∧ f.2.1 ≤ 8 ∧ 0 ≤ f.2.2 ∧ f.2.2 ≤ 8 := by
  simp [factB, isTermB] at h; omega
theorem all_of {α : Type} [Dat α] {p : α → Bool} {l : List α} (h : l.all p = true) (k : Nat) (hk : k < l.length) : p (gd l k) = true := by
  rw [List.all_eq_true] at h
  have e : gd l k = l[k] := by simp [gd, hk]
  rw [e]; exact h _ (List.getElem_mem hk)




end Go.Proofs.YtdjfdopgjlbloaaGreatDoor
/- Base2: texts W7, W8, W9, Garb, W10, W11 in one. -/
/- Walks: ReachCells of the program and of the reference. -/
namespace Go.Proofs.YtdjfdopgjlbloaaGreatDoor
open Go.RowKit

theorem own_empty_at (w : World) (B e g : Nat) (hg : w.heap.size = g) (hB : B ≤ g) : (w.alloc (.cells #[] e)).ownsRow B e 1 (.slice (some ⟨g, 0, none⟩) 0 0) 0 (ints []) := by
  subst hg
  have := World.ownsRow_lit (size := 1) w #[] 0 hB (by unfold maxLen; omega) rfl (e := e)
  simpa [ints] using this

theorem own_empty (w : World) (B e : Nat) (hB : B ≤ w.heap.size) : (w.alloc (.cells #[] e)).ownsRow B e 1 (.slice (some ⟨w.heap.size, 0, none⟩) 0 0) 0 (ints []) := by
  have := World.ownsRow_lit (size := 1) w #[] 0 hB (by unfold maxLen; omega) rfl (e := e)
  simpa [ints] using this

end Go.Proofs.YtdjfdopgjlbloaaGreatDoor
/- Walks: AliasTerms of the program and of the reference. -/
namespace Go.Proofs.YtdjfdopgjlbloaaGreatDoor
open Go.RowKit

end Go.Proofs.YtdjfdopgjlbloaaGreatDoor
/- Walks: AliasTerms of the reference; UsedCells; CycleCells. -/
namespace Go.Proofs.YtdjfdopgjlbloaaGreatDoor
open Go.RowKit


end Go.Proofs.YtdjfdopgjlbloaaGreatDoor
/- Reached cells from several starts; garbage; cycles: in plain Lean. -/
namespace Go.Proofs.YtdjfdopgjlbloaaGreatDoor

end Go.Proofs.YtdjfdopgjlbloaaGreatDoor
/- Walks: GarbageCells and CycleCells of the program. -/
namespace Go.Proofs.YtdjfdopgjlbloaaGreatDoor
open Go.RowKit

end Go.Proofs.YtdjfdopgjlbloaaGreatDoor
/- Walks: GarbageCells and CycleCells of the reference. -/
namespace Go.Proofs.YtdjfdopgjlbloaaGreatDoor
open Go.RowKit

theorem flags_form {w : World} {B m : Nat} {v : Value} (h : w.ownsRow B 4 1 v 9 (flagsOf m)) : ∃ g cap, v = .slice (some ⟨g, 0, none⟩) 9 cap := by
  rcases h.2 with ⟨_, h⟩ | ⟨g, cap, _, rfl, _⟩
  · omega
  · exact ⟨g, cap, rfl⟩

/-- A readable list that came in is not in a block of the call's own. -/
theorem RInts.apart {w : World} {v : Value} {l : List Int} (h : RInts w v l) (hl : 0 < l.length) : ∀ k, v.ownBlock = some k → k < w.heap.size := by
  obtain ⟨b, o, cap, rfl, _, _, hc⟩ := h.ne hl
  intro k hk
  simp [Value.ownBlock] at hk
  have := World.block_lt_of_cell? w _ (hc 0 hl)
  simp at this; omega

end Go.Proofs.YtdjfdopgjlbloaaGreatDoor
/- Draw2: texts Dr3, Dr4, Dr5, Dr6, Dr7 in one. -/
/- Walks: drawing states with lists. -/
namespace Go.Proofs.YtdjfdopgjlbloaaGreatDoor
open Go.RowKit

section
variable {w0 w w' : World} {g q q' B bA bB : Nat} {v1 v2 : Value} {l1 l2 : List Int}
theorem DrSt.start {w1 : World} {hB : Nat} (hst : OwnSt w1 (w.heap.size + 1) v1 v2 l1 l2) (hr : Rdr w g q) (hb : Below (w.alloc (.cells #[.slice none 0 0, .slice none 0 0] 9999)).heap.size (w.alloc (.cells #[.slice none 0 0, .slice none 0 0] 9999)) w1) (hB1 : w1.heap.size = hB) :
    DrSt w (w1.alloc (.cells #[v1, v2] 9999)) g q (w.heap.size + 1) w.heap.size hB v1 v2 l1 l2 := by
  subst hB1
  exact ⟨hst.keep (below_alloc _ _), ((hr.keep (below_alloc w _)).keep hb).keep (below_alloc _ _), box_keep (box_keep (heap_alloc_new w _) hb) (below_alloc _ _), heap_alloc_new w1 _,
    ((Below.fr (bt (below_alloc w _) hb)).mono fun _ _ h => h.elim).thenB (below_alloc _ _)⟩
end

end Go.Proofs.YtdjfdopgjlbloaaGreatDoor
/- Walks: copies of states in the reference; changed states. -/
namespace Go.Proofs.YtdjfdopgjlbloaaGreatDoor
open Go.RowKit

theorem news_of {w : World} {b o n c : Nat} {l : List Int} (h : RInts w (.slice (some ⟨b, o, none⟩) n c) l) : ∀ j u, (ints l)[j]? = some u → w.cell? ((⟨b, o, none⟩ : Addr).add j) = some u := by
  intro j u hj
  have hjl : j < l.length := by
    rcases Nat.lt_or_ge j l.length with h | h
    · exact h
    · rw [List.getElem?_eq_none (by simpa [ints] using h)] at hj; cases hj
  have hu : u = .int .i64 (gi l j) := by
    simp [ints, hjl] at hj; rw [gi_of hjl, ← hj]
  have := (h.at j hjl).2
  have e : (⟨b, o, none⟩ : Addr).add j = ⟨b, o + j, none⟩ := by unfold Addr.add; split <;> simp_all
  rw [e, this, hu]

theorem RInts.news {w : World} {b o c : Nat} {l : List Int} (h : RInts w (.slice (some ⟨b, o, none⟩) l.length c) l) : ∀ j u, (ints l)[j]? = some u → w.cell? ((⟨b, o, none⟩ : Addr).add j) = some u := news_of h

end Go.Proofs.YtdjfdopgjlbloaaGreatDoor
namespace Go.Proofs.YtdjfdopgjlbloaaGreatDoor
open Go.RowKit
section
variable {w0 w : World} {g q B bA bB : Nat} {v1 v2 : Value} {l1 l2 : List Int}
theorem DrSt.done (h : DrSt w0 w g q B bA bB v1 v2 l1 l2) (hB : bA < B) (hA : w0.heap.size ≤ bA) (hg : g < w0.heap.size) (x y : Value) :
    OwnSt ((w.setCell ⟨bA, 0, none⟩ x).setCell ⟨bA, 1, none⟩ y) B v1 v2 l1 l2 ∧ Rdr ((w.setCell ⟨bA, 0, none⟩ x).setCell ⟨bA, 1, none⟩ y) g q ∧ Fr (fun j => j = g) w0 ((w.setCell ⟨bA, 0, none⟩ x).setCell ⟨bA, 1, none⟩ y) := by
  refine ⟨?_, ?_, ?_⟩
  · exact (h.own.kept (fr_set _ _ _) (fun k h1 _ e => by simp at e; omega)).kept (fr_set _ _ _) (fun k h1 _ e => by simp at e; omega)
  · exact (h.rdr.kept (fr_set _ _ _) (fun k h1 e => by simp at e; omega)).kept (fr_set _ _ _) (fun k h1 e => by simp at e; omega)
  · exact (h.fr.then (fr_set _ _ _) (fun i hi e => by simp at e; omega)).then (fr_set _ _ _) (fun i hi e => by simp at e; omega)
end
end Go.Proofs.YtdjfdopgjlbloaaGreatDoor
namespace Go.Proofs.YtdjfdopgjlbloaaGreatDoor
open Go.RowKit

theorem RBytes.keep {w w' : World} {v : Value} {n : Nat} (h : RBytes w v n) (hb : Below w.heap.size w w') : RBytes w' v n := by
  obtain ⟨c, hr, hc⟩ := h
  exact ⟨c, hr.keep hb, hc⟩

end Go.Proofs.YtdjfdopgjlbloaaGreatDoor
/- Walks: draws that pass others on. -/
namespace Go.Proofs.YtdjfdopgjlbloaaGreatDoor
open Go.RowKit

end Go.Proofs.YtdjfdopgjlbloaaGreatDoor
/- Math1: texts DMath, DMath2, DMath3, Sl1, Sl2, Sl3 in one. -/
/- Plain facts on reaching, for the drawn laws. -/
namespace Go.Proofs.YtdjfdopgjlbloaaGreatDoor

end Go.Proofs.YtdjfdopgjlbloaaGreatDoor
/- Plain facts on cycles, for the drawn laws. -/
namespace Go.Proofs.YtdjfdopgjlbloaaGreatDoor

end Go.Proofs.YtdjfdopgjlbloaaGreatDoor
/- Plain facts on garbage, for the drawn laws. -/
namespace Go.Proofs.YtdjfdopgjlbloaaGreatDoor

end Go.Proofs.YtdjfdopgjlbloaaGreatDoor
/- Walks: small helpers of the drawn laws; reading a cell; tests. -/
namespace Go.Proofs.YtdjfdopgjlbloaaGreatDoor
open Go.RowKit

set_option maxHeartbeats 400000 in
theorem slInts_any (v1 v2 : Value) (l1 l2 : List Int) (w : World) (h1 : RInts w v1 l1) (h2 : RInts w v2 l2) :
    Calls Tryz.prog 21 #[v1, v2] w fun e w' => e = .returned (.bool (decide (l1 = l2))) ∧ Below w.heap.size w w' := by
  have hm1 := h1.len
  have hm2 := h2.len
  unfold maxLen at hm1 hm2
  obtain ⟨a1, c1, rfl, hf1⟩ := h1.cells
  obtain ⟨a2, c2, rfl, hf2⟩ := h2.cells
  by_cases hl : l1.length = l2.length
  · have hle : l1.length ≤ l2.length := by omega
    have hge : l2.length ≤ l1.length := by omega
    have HL := Lib.hid hl
    have F1 := Lib.hid hf1
    have F2 := Lib.hid hf2
    have hne : ((l1.length : Int) != (l2.length : Int)) = false := by simp [hl]
    clear hl hf1 hf2 h1 h2
    go_enter Tryz.func21, Tryz.ntmps21
    go_wp2
    go_loopg [5] l1.length (fun q i wr => ∃ k : Nat, k + q = l1.length ∧ i = .int .i64 k ∧ l1.take k = l2.take k ∧ Below w.heap.size w wr)
    case atStart => exact ⟨0, by omega, rfl, by simp, Below.refl _ _⟩
    case round =>
      obtain ⟨k, hk, rfl, ht, hb⟩ := hrel
      have HK := Lib.hid hk
      have HT := Lib.hid ht
      clear hk ht
      by_cases hk8 : k < l1.length
      · have hk2 : k < l2.length := by omega
        obtain ⟨b1, o1, rfl, hbl1, hc1⟩ := F1.out k hk8
        obtain ⟨b2, o2, rfl, hbl2, hc2⟩ := F2.out k hk2
        have hc1r := cell_below hb hbl1 hc1
        have hc2r := cell_below hb hbl2 hc2
        have hs := hb.size
        have g1 : b1 < wr.heap.size := by omega
        have g2 : b2 < wr.heap.size := by omega
        have i1 : (k : Int) < (l1.length : Int) := by omega
        have i2 : (k : Int) < (l2.length : Int) := by omega
        by_cases he : gi l1 k = gi l2 k
        · have hne2 : (gi l1 k != gi l2 k) = false := by simp [he]
          have HE := Lib.hid he
          clear he hc1 hc2
          go_wp2
          refine wp_region_ext (by kernel_rfl) (by kernel_rfl) ?_
          repeat (go_big_quiet_step (fail))
          refine wpQuiet_nil ?_
          intro w2 hb2
          go_wp2
          go_roundg (gk - 1)
          case rel => exact ⟨k + 1, by have := HK.out; omega, by go_num, take_eq_succ hk8 hk2 HT.out HE.out, hb.trans (hb2.mono hs)⟩
          case measure => have := HK.out; omega
        · have hne2 : (gi l1 k != gi l2 k) = true := by simpa using he
          have hfin : decide (l1 = l2) = false := by simpa using ne_of_gi he
          have HF := Lib.hid hfin
          clear he hc1 hc2 hfin
          go_wp2
          refine wp_region_ext (by kernel_rfl) (by kernel_rfl) ?_
          repeat (go_big_quiet_step (fail))
          refine wpQuiet_nil ?_
          intro w2 hb2
          go_wp2
          go_ret
          exact ⟨by rw [HF.out]; rfl, hb.trans (hb2.mono hs)⟩
      · obtain rfl : k = l1.length := by have := HK.out; omega
        have hfin : decide (l1 = l2) = true := by
          have := HT.out
          rw [List.take_length, HL.out, List.take_length] at this
          simpa using this
        have HF := Lib.hid hfin
        clear hfin HT
        go_wp2
        go_ret
        exact ⟨by rw [HF.out]; rfl, hb⟩
  · have hne : ((l1.length : Int) != (l2.length : Int)) = true := by simp; omega
    have hfin : decide (l1 = l2) = false := by simpa using fun h => hl (by rw [h])
    have HF := Lib.hid hfin
    clear hl hfin
    go_enter Tryz.func21, Tryz.ntmps21
    go_wp2
    go_ret
    exact ⟨by rw [HF.out]; rfl, Below.refl _ _⟩
end Go.Proofs.YtdjfdopgjlbloaaGreatDoor
/- Walks: tests of facts. -/
namespace Go.Proofs.YtdjfdopgjlbloaaGreatDoor
open Go.RowKit

theorem bytes_form {w : World} {v : Value} {n : Nat} (h : RBytes w v n) : ∃ a cap, v = .slice a n cap := by
  obtain ⟨_, hr, _⟩ := h
  rcases hr with ⟨a, cap, rfl, h0, _⟩ | ⟨b, o, cap, rfl, _⟩
  · exact ⟨a, cap, by rw [h0]⟩
  · exact ⟨_, cap, rfl⟩

end Go.Proofs.YtdjfdopgjlbloaaGreatDoor
/- Walks: a walk that never ends. -/
namespace Go.Proofs.YtdjfdopgjlbloaaGreatDoor
open Go.RowKit

end Go.Proofs.YtdjfdopgjlbloaaGreatDoor

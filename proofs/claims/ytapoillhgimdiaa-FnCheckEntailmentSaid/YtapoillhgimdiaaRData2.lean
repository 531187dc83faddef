/- Perms: texts Perm, Perm2, Perm3 in one. -/
import Derived.Test.YtapoillhgimdiaaRBase1
import Derived.Test.YtapoillhgimdiaaRMath1
import Derived.Test.YtapoillhgimdiaaRBase3
import Derived.Test.YtapoillhgimdiaaRDraw1
import Derived.Laws.CopyOwn
import Derived.Deep.RegionHeld3
import Derived.Laws.Tables
import Derived.Test.YtapoillhgimdiaaRData1
/- Names of addresses, in plain Lean: permutations of the numbers from 1 to 8. -/
namespace Go.Proofs.Ytapoillhgimdiaa

/-- A value by its new name. -/
def nm (ns : List Int) (v : Int) : Int := if isAddrB v = true then gi ns (v - 1).toNat else v
end Go.Proofs.Ytapoillhgimdiaa
/- Names of addresses, in plain Lean: the names back; renamed states are valid; as many cells. -/
namespace Go.Proofs.Ytapoillhgimdiaa

end Go.Proofs.Ytapoillhgimdiaa
/- Renamed heaps, in plain Lean: contents, allocated cells, how many. -/
namespace Go.Proofs.Ytapoillhgimdiaa

theorem sub_len : ∀ {a b : List Int}, a.Nodup → (∀ x ∈ a, x ∈ b) → a.length ≤ b.length
  | [], _, _, _ => Nat.zero_le _
  | x :: a, b, hn, hs => by
    have hx := hs x List.mem_cons_self
    have hn' := List.nodup_cons.1 hn
    have ih := sub_len (a := a) (b := b.erase x) hn'.2 (fun y hy => by
      have hne : ¬ y = x := fun e => hn'.1 (e ▸ hy)
      exact (List.mem_erase_of_ne hne).2 (hs y (List.mem_cons_of_mem _ hy)))
    rw [List.length_erase_of_mem hx] at ih
    have : 0 < b.length := List.length_pos_of_mem hx
    simp only [List.length_cons]
    omega

end Go.Proofs.Ytapoillhgimdiaa
/- Cpy: texts Cp, Free, Same in one. -/
/- Walks: copies of lists of integers and of states. -/
namespace Go.Proofs.Ytapoillhgimdiaa
open Go.RowKit

theorem own_of_row {w : World} {B e g n : Nat} {l : List Int} (hB : B ≤ g) (hn : n = l.length) (hm : n ≤ maxLen) (h : w.heap[g]? = some (.cells (ints l).toArray e (0, 0))) : w.ownsRow B e 1 (.slice (some ⟨g, 0, none⟩) n n) n (ints l) := by
  subst hn
  exact ⟨by simp [ints], .inr ⟨g, l.length, (ints l).toArray, rfl, hB, h, Nat.le_refl _, hm, by simp [ints], by rw [List.take_of_length_le (by simp [ints])]⟩⟩
end Go.Proofs.Ytapoillhgimdiaa
/- Walks: FreeCell. -/
namespace Go.Proofs.Ytapoillhgimdiaa
open Go.RowKit

theorem box_two {w : World} {b : Nat} {u v : Value} (x y : Value) (h0 : w.cell? ⟨b, 0, none⟩ = some u) (h1 : w.cell? ⟨b, 1, none⟩ = some v) :
    ((w.setCell ⟨b, 0, none⟩ x).setCell ⟨b, 1, none⟩ y).cell? ⟨b, 0, none⟩ = some x ∧ ((w.setCell ⟨b, 0, none⟩ x).setCell ⟨b, 1, none⟩ y).cell? ⟨b, 1, none⟩ = some y := by
  constructor
  · rw [World.cell?_setCell_other _ _ _ _ (by simp), World.cell?_setCell_same _ _ _ h0]
  · exact World.cell?_setCell_same _ _ _ (u := v) (by rw [World.cell?_setCell_other _ _ _ _ (by simp)]; exact h1)

end Go.Proofs.Ytapoillhgimdiaa
/- Walks: equal lists and equal states. -/
namespace Go.Proofs.Ytapoillhgimdiaa
open Go.RowKit

set_option maxHeartbeats 400000 in
theorem sameInts_any (v1 v2 : Value) (l1 l2 : List Int) (w : World) (h1 : RInts w v1 l1) (h2 : RInts w v2 l2) :
    Calls Try.prog 119 #[v1, v2] w fun e w' => e = .returned (.bool (decide (l1 = l2))) ∧ w = w' := by
  have hm1 := h1.len
  have hm2 := h2.len
  unfold maxLen at hm1 hm2
  obtain ⟨a1, c1, rfl, hf1⟩ := h1.cells
  obtain ⟨a2, c2, rfl, hf2⟩ := h2.cells
  by_cases hl : l1.length = l2.length
  · have hle : l1.length ≤ l2.length := by omega
    have hge : l2.length ≤ l1.length := by omega
    have HL := Lib.hid hl
    have F1 := Lib.hid hf1
    have F2 := Lib.hid hf2
    have hne : ((l1.length : Int) != (l2.length : Int)) = false := by simp [hl]
    clear hl hf1 hf2 h1 h2
    go_enter Try.func119, Try.ntmps119
    go_wp2
    go_loopg [14] l1.length (fun q i wr => ∃ k : Nat, k + q = l1.length ∧ i = .int .i64 k ∧ l1.take k = l2.take k ∧ w = wr)
    case atStart => exact ⟨0, by omega, rfl, by simp, rfl⟩
    case round =>
      obtain ⟨k, hk, rfl, ht, rfl⟩ := hrel
      have HK := Lib.hid hk
      have HT := Lib.hid ht
      clear hk ht
      by_cases hk8 : k < l1.length
      · have hk2 : k < l2.length := by omega
        obtain ⟨b1, o1, rfl, hbl1, hc1⟩ := F1.out k hk8
        obtain ⟨b2, o2, rfl, hbl2, hc2⟩ := F2.out k hk2
        have i1 : (k : Int) < (l1.length : Int) := by omega
        have i2 : (k : Int) < (l2.length : Int) := by omega
        by_cases he : gi l1 k = gi l2 k
        · have hne2 : (gi l1 k != gi l2 k) = false := by simp [he]
          have HE := Lib.hid he
          clear he
          go_wp2
          go_roundg (gk - 1)
          case rel => exact ⟨k + 1, by have := HK.out; omega, by go_num, take_eq_succ hk8 hk2 HT.out HE.out, rfl⟩
          case measure => have := HK.out; omega
        · have hne2 : (gi l1 k != gi l2 k) = true := by simpa using he
          have hfin : decide (l1 = l2) = false := by simpa using ne_of_gi he
          have HF := Lib.hid hfin
          clear he hfin
          go_wp2
          go_ret
          exact ⟨by rw [HF.out]; rfl, rfl⟩
      · obtain rfl : k = l1.length := by have := HK.out; omega
        have hfin : decide (l1 = l2) = true := by
          have := HT.out
          rw [List.take_length, HL.out, List.take_length] at this
          simpa using this
        have HF := Lib.hid hfin
        clear hfin HT
        go_wp2
        go_ret
        exact ⟨by rw [HF.out]; rfl, rfl⟩
  · have hne : ((l1.length : Int) != (l2.length : Int)) = true := by simp; omega
    have hfin : decide (l1 = l2) = false := by simpa using fun h => hl (by rw [h])
    have HF := Lib.hid hfin
    clear hl hfin
    go_enter Try.func119, Try.ntmps119
    go_wp2
    go_ret
    exact ⟨by rw [HF.out]; rfl, rfl⟩
end Go.Proofs.Ytapoillhgimdiaa
/- Rens: texts Rn1, Rn2, Rn3, Rn4 in one. -/
/- Walks: tables of names. -/
namespace Go.Proofs.Ytapoillhgimdiaa
open Go.RowKit

abbrev iarr (l : List Int) : Array Value := (ints l).toArray
theorem iarr_size (l : List Int) : (iarr l).size = l.length := by simp [ints]
theorem iarr_one (l : List Int) : (iarr l).all (·.oneCell') = true := by
  rw [Array.all_eq_true_iff_forall_mem]
  intro x hx
  simp [ints] at hx
  obtain ⟨_, _, rfl⟩ := hx
  rfl
theorem iarr_at {w : World} {b : Nat} {T : TypeId} {l : List Int} (h : w.heap[b]? = some (.cells (iarr l) T (0, 0))) (i : Nat) (hi : i < l.length) : w.cell? ⟨b, i, none⟩ = some (.int .i64 (gi l i)) := by
  rw [cell_of_row w b i _ _ _ h]
  simp [ints, hi, gi_of]
theorem iarr_set {w : World} {b : Nat} {T : TypeId} {l : List Int} (h : w.heap[b]? = some (.cells (iarr l) T (0, 0))) (i : Nat) (x : Int) : (w.setCell ⟨b, i, none⟩ (.int .i64 x)).heap[b]? = some (.cells (iarr (l.set i x)) T (0, 0)) := by
  rw [heap_setCell_same w b i _ T _ h]
  congr 2
  simp [ints, List.map_set]

end Go.Proofs.Ytapoillhgimdiaa
/- Walks: readNames and the reference's test of names. -/
namespace Go.Proofs.Ytapoillhgimdiaa
open Go.RowKit

end Go.Proofs.Ytapoillhgimdiaa
/- Walks: renamed states. -/
namespace Go.Proofs.Ytapoillhgimdiaa
open Go.RowKit

/-- A state in the making: its two rows of 8; the box of the result at bR, its own at bK. -/
structure RnSt (w0 w : World) (bR bK g1 c1 g2 c2 : Nat) (l1 l2 : List Int) : Prop where
  own : OwnSt w (bR + 1) (.slice (some ⟨g1, 0, none⟩) 8 c1) (.slice (some ⟨g2, 0, none⟩) 8 c2) l1 l2
  len1 : l1.length = 8
  len2 : l2.length = 8
  lt1 : bR < g1
  lt2 : bR < g2
  ne1 : ¬ g1 = bK
  ne2 : ¬ g2 = bK
  low : w0.heap.size ≤ bR
  ltK : bR < bK
  boxR : w.heap[bR]? = some (.cells #[.slice none 0 0, .slice none 0 0] 77 (0, 0))
  boxK : w.heap[bK]? = some (.cells #[.slice (some ⟨g1, 0, none⟩) 8 c1, .slice (some ⟨g2, 0, none⟩) 8 c2] 77 (0, 0))
  bel : Below w0.heap.size w0 w

section
variable {w0 w w' : World} {bR bK g1 c1 g2 c2 : Nat} {l1 l2 : List Int}
theorem RnSt.keep (h : RnSt w0 w bR bK g1 c1 g2 c2 l1 l2) (hb : Below w.heap.size w w') : RnSt w0 w' bR bK g1 c1 g2 c2 l1 l2 :=
  ⟨h.own.keep hb, h.len1, h.len2, h.lt1, h.lt2, h.ne1, h.ne2, h.low, h.ltK, box_keep h.boxR hb, box_keep h.boxK hb, bt h.bel hb⟩
theorem RnSt.set2 (h : RnSt w0 w bR bK g1 c1 g2 c2 l1 l2) (i : Nat) (x : Int) : RnSt w0 (w.setCell ⟨g2, i, none⟩ (.int .i64 x)) bR bK g1 c1 g2 c2 l1 (l2.set i x) := by
  have ho := h.own
  have hs : OwnSt (w.setCell ⟨g2, i, none⟩ (.int .i64 x)) (bR + 1) (.slice (some ⟨g1, 0, none⟩) 8 c1) (.slice (some ⟨g2, 0, none⟩) 8 c2) l1 (l2.set i x) := by
    have := OwnSt.set2 (l2 := l2) (cap := c2) (g := g2) (by rw [h.len2]; exact ho) i x
    rwa [h.len2] at this
  have hlo := h.low
  have hlt := h.lt2
  exact ⟨hs, h.len1, by rw [List.length_set, h.len2], h.lt1, h.lt2, h.ne1, h.ne2, h.low, h.ltK, box_other h.boxR _ _ (by simp; omega), box_other h.boxK _ _ (by simp; exact fun e => h.ne2 e.symm), h.bel.setCell (by simp; omega) _⟩
theorem RnSt.cell1 (h : RnSt w0 w bR bK g1 c1 g2 c2 l1 l2) (i : Nat) (hi : i < 8) : w.cell? ⟨g1, i, none⟩ = some (.int .i64 (gi l1 i)) ∧ w.frozen? ⟨g1, i, none⟩ = false := by
  have := h.own.one
  rw [h.len1] at this
  exact own_cell (cap := c1) (by rw [h.len1]; exact this) i (by rw [h.len1]; exact hi)
theorem RnSt.cell2 (h : RnSt w0 w bR bK g1 c1 g2 c2 l1 l2) (i : Nat) (hi : i < 8) : w.cell? ⟨g2, i, none⟩ = some (.int .i64 (gi l2 i)) ∧ w.frozen? ⟨g2, i, none⟩ = false := by
  have := h.own.two
  rw [h.len2] at this
  exact own_cell (cap := c2) (by rw [h.len2]; exact this) i (by rw [h.len2]; exact hi)
/-- At the return: the state is laid into the result's box. -/
theorem RnSt.done (h : RnSt w0 w bR bK g1 c1 g2 c2 l1 l2) :
    OwnSt ((w.setCell ⟨bR, 0, none⟩ (.slice (some ⟨g1, 0, none⟩) 8 c1)).setCell ⟨bR, 1, none⟩ (.slice (some ⟨g2, 0, none⟩) 8 c2)) w0.heap.size (.slice (some ⟨g1, 0, none⟩) 8 c1) (.slice (some ⟨g2, 0, none⟩) 8 c2) l1 l2 ∧
    Below w0.heap.size w0 ((w.setCell ⟨bR, 0, none⟩ (.slice (some ⟨g1, 0, none⟩) 8 c1)).setCell ⟨bR, 1, none⟩ (.slice (some ⟨g2, 0, none⟩) 8 c2)) := by
  have hlo := h.low
  exact ⟨((h.own.kept (fr_set _ _ _) (fun j h1 _ e => by simp at e; omega)).kept (fr_set _ _ _) (fun j h1 _ e => by simp at e; omega)).mono (by omega), (h.bel.setCell (by simp; omega) _).setCell (by simp; omega) _⟩
end

end Go.Proofs.Ytapoillhgimdiaa
/- Walks: renameState, and the reference's. -/
namespace Go.Proofs.Ytapoillhgimdiaa
open Go.RowKit

end Go.Proofs.Ytapoillhgimdiaa
/- Data2: texts Mk, Lx1, Lx2, ExKit in one. -/
/- How the laws measure and mark data, in plain Lean; the helpers for lists of numbers, facts and atoms in one form. -/
namespace Go.Proofs.Ytapoillhgimdiaa
open Go.RowKit

class Mk (α : Type) where
  size : α → Nat
  cnt : α → Nat
  mark : Int → α → α
  le : ∀ a, cnt a ≤ 3 * size a
def mkL {α : Type} [Mk α] (k : Int) : List α → List α
  | [] => []
  | x :: r => Mk.mark k x :: mkL (k + Mk.cnt x) r
theorem sum_le3 {α : Type} [Mk α] : ∀ l : List α, (l.map (Mk.cnt (α := α))).sum ≤ 3 * (l.map (Mk.size (α := α))).sum
  | [] => by simp
  | x :: r => by
    have h1 := Mk.le x
    have h2 := sum_le3 r
    simp only [List.map_cons, List.sum_cons]
    omega
instance : Mk (List Int) := ⟨fun l => l.length, fun l => l.length, fun k l => mks k l.length, fun l => by show l.length ≤ 3 * l.length; omega⟩
instance : Mk (List Fact) := ⟨fun l => l.length, fun l => 3 * l.length, fun k l => mkFacts k l.length, fun _ => Nat.le_refl _⟩
instance : Mk (List Atom) := ⟨fun l => l.length, fun l => 3 * l.length, fun k l => mkAtoms k l.length, fun _ => Nat.le_refl _⟩
instance {α β : Type} [Mk α] [Mk β] : Mk (α × β) :=
  ⟨fun p => Mk.size p.1 + Mk.size p.2, fun p => Mk.cnt p.1 + Mk.cnt p.2, fun k p => (Mk.mark k p.1, Mk.mark (k + Mk.cnt p.1) p.2), fun p => by
    have := Mk.le p.1
    have := Mk.le p.2
    show Mk.cnt p.1 + Mk.cnt p.2 ≤ 3 * (Mk.size p.1 + Mk.size p.2)
    omega⟩
instance {α : Type} [Mk α] : Mk (List α) :=
  ⟨fun l => l.length + (l.map Mk.size).sum, fun l => (l.map Mk.cnt).sum, mkL, fun l => by
    have := sum_le3 l
    show (l.map Mk.cnt).sum ≤ 3 * (l.length + (l.map Mk.size).sum)
    omega⟩

section
variable {α : Type} [Inhabited α] {f : α → Nat} {l : List α} {k : Nat}
end
section
variable {α : Type} [Inhabited α] [Mk α] {k0 : Int} {l : List α} {k : Nat}
end

theorem own_cInt (w : World) (B : Nat) (x : Int) : Own.own w B x [.int .i64 x] [] := ⟨rfl, rfl⟩
theorem fp_int {w : World} {B : Nat} {a : Int} {cs : List Value} {fp : List Nat} (h : Own.own w B a cs fp) : fp = [] := h.2
theorem nth_ints {l : List Int} {i : Nat} (h : i < l.length) : nth 1 (ints l) i = [.int .i64 (gd l i)] := by
  have hl : (ints l).length = l.length := by simp
  unfold nth
  rw [Nat.mul_one, List.drop_eq_getElem_cons (by omega)]
  simp [ints, gd_of h]
theorem ints_OL {w : World} {B : Nat} {v : Value} {l : List Int} (h : w.ownsRow B 3 1 v l.length (ints l)) : OL w B v l v.ownBlock.toList :=
  flat_OL (c := fun x => [.int .i64 x]) own_cInt h fun _ hi => nth_ints hi
theorem OL.ints {w : World} {B : Nat} {v : Value} {l : List Int} {fp : List Nat} (h : OL w B v l fp) : w.ownsRow B 3 1 v l.length (ints l) ∧ fp = v.ownBlock.toList := by
  have hfp := (h.row fp_int).2
  refine ⟨?_, hfp⟩
  obtain ⟨xs, fps, hr, hl, _, ho⟩ := h
  have : xs = Go.Proofs.Ytapoillhgimdiaa.ints l := by
    have h1 : xs.length = l.length := by rw [hr.1]; exact Nat.mul_one _
    refine List.ext_getElem (by rw [h1]; simp) fun i h2 h3 => ?_
    have h0 : nth 1 xs i = [.int .i64 (gd l i)] := (ho i (by omega)).1
    have h4 := nth_at (sz := 1) (i := i) (j := 0) (xs := xs) (u := .int .i64 (gd l i)) (by rw [h0]; rfl)
    rw [Nat.mul_one, Nat.add_zero, List.getElem?_eq_getElem h2] at h4
    injection h4 with h4
    rw [h4]
    simp [gd_of (show i < l.length by omega)]
  rw [this] at hr
  exact hr
theorem nodup_own (v : Value) : v.ownBlock.toList.Nodup := by cases v.ownBlock <;> simp
end Go.Proofs.Ytapoillhgimdiaa
/- Walks: the helpers of the laws for structs of two lists. -/
namespace Go.Proofs.Ytapoillhgimdiaa
open Go.RowKit

theorem OL.setB {α : Type} [Own α] [Tid α] {w : World} {B : Nat} {v : Value} {l : List α} {fp : List Nat} {p : Addr} {u : Value} (h : OL w B v l fp) (hp : p.block < B) : OL (w.setCell p u) B v l fp :=
  h.okept (fr_set _ _ _) fun k hk e => by have := (h.lt k hk).1; omega

theorem RL.ext {α : Type} [Dat α] {w : World} {S : Nat → Prop} {v : Value} {l : List α} (h : RL w S v l) (x : Ext w) : RL (ext w x) S v l := h.keep x.below
theorem RL.cpfAt {w : World} {S : Nat → Prop} {v : Value} {l : List CPf} (h : RL w S v l) : ∃ a cap, v = .slice a l.length cap ∧ l.length ≤ cap ∧ cap ≤ maxLen ∧
    ∀ i, i < l.length → ∃ b o v1 v2, a = some ⟨b, o, none⟩ ∧ S b ∧ b < w.heap.size ∧ w.cell? ⟨b, o + i * 2, none⟩ = some v1 ∧ w.cell? ⟨b, o + i * 2 + 1, none⟩ = some v2 ∧ RL w S v1 (gd l i).1 ∧ RL w S v2 (gd l i).2 := by
  obtain ⟨a, cap, e, h1, h2, h3⟩ := h.cells
  refine ⟨a, cap, e, h1, h2, fun i hi => ?_⟩
  obtain ⟨b, o, ea, hs, hb, cs, hr, hc⟩ := h3 i hi
  obtain ⟨v1, v2, rfl, r1, r2⟩ := rd_cpf hr
  exact ⟨b, o, v1, v2, ea, hs, hb, hc 0 _ rfl, hc 1 _ rfl, r1, r2⟩

end Go.Proofs.Ytapoillhgimdiaa
/- Walks: the helpers of the laws for lists of assertions and lists of lists of numbers. -/
namespace Go.Proofs.Ytapoillhgimdiaa
open Go.RowKit

theorem info_IntSS : (Try.prog.info? 41).map (fun i => (i.zero, i.size, i.bytes)) = some (some (.slice none 0 0), 1, 24) := by kernel_rfl
end Go.Proofs.Ytapoillhgimdiaa
/- Small words for the walks of exact laws. -/
namespace Go.Proofs.Ytapoillhgimdiaa
open Go.RowKit
theorem RL.lt {α : Type} [Dat α] {w : World} {S : Nat → Prop} {v : Value} {l : List α} (h : RL w S v l) : RL w (fun k => k < w.heap.size) v l := h.more fun _ hk _ => hk
end Go.Proofs.Ytapoillhgimdiaa

/- Walks: the check of a case: the program. -/
import Derived.Test.YtapoillhgimdiaaTCaseC
import Derived.Deep.Cut
import Derived.Deep.RegionHeld3
import Derived.Deep.MidRow
import Derived.Test.YtapoillhgimdiaaTCsA
import Derived.Handy
import Derived.Laws.StructEq
import Derived.Test.YtapoillhgimdiaaTData2
namespace Go.Proofs.Ytapoillhgimdiaa
open Go.RowKit

end Go.Proofs.Ytapoillhgimdiaa
/- MtcA: texts Mtc1, Mtc2 in one. -/
/- Walks: the matching of atoms in a case: the program. -/
namespace Go.Proofs.Ytapoillhgimdiaa
open Go.RowKit

def cmR (v : Value) (m : Nat) (c : Int) : Array Value := (v :: (boolsN 6 m ++ [.int .i64 c])).toArray
/-- A matching lies in block b: the atoms, which of them were used, how many. -/
def CM (w : World) (b : Nat) (v : Value) (m : Nat) (c : Int) : Prop := w.heap[b]? = some (.cells (cmR v m c) 184 (0, 0))
section
variable {w w' : World} {b : Nat} {v : Value} {m : Nat} {c : Int}
theorem CM.c0 (h : CM w b v m c) : w.cell? ⟨b, 0, none⟩ = some v := by rw [cell_of_row _ _ 0 _ _ _ h]; rfl
theorem CM.cb (h : CM w b v m c) {i : Nat} (hi : i < 6) : w.cell? ⟨b, 1 + i, none⟩ = some (.bool (m.testBit i)) := by
  rw [cell_of_row _ _ _ _ _ _ h]
  have := bools_at (n := 6) (m := m) hi
  simp only [cmR, List.getElem?_toArray, Nat.add_comm 1 i, List.getElem?_cons_succ]
  rw [List.getElem?_append_left (by rw [bools_len]; exact hi)]
  exact this
theorem CM.c7 (h : CM w b v m c) : w.cell? ⟨b, 7, none⟩ = some (.int .i64 c) := by
  rw [cell_of_row _ _ 7 _ _ _ h]
  simp only [cmR, List.getElem?_toArray, List.getElem?_cons_succ]
  rw [List.getElem?_append_right (by rw [bools_len]; omega), bools_len]
  rfl
theorem CM.fz (h : CM w b v m c) (i : Nat) : w.frozen? ⟨b, i, none⟩ = false := frozen_of_row _ _ i _ _ h
theorem CM.lt (h : CM w b v m c) : b < w.heap.size := box_lt h
theorem CM.keep (h : CM w b v m c) (hb : Below w.heap.size w w') : CM w' b v m c := box_keep h hb
end
theorem OO.ints {w : World} {B : Nat} {v : Value} {l : List Int} (h : w.ownsRow B 3 1 v l.length (ints l)) : OO w B v l := ⟨_, ints_OL h, nodup_own v⟩
theorem chain_none {left : List Atom} {B A : Int} {cl : Bool} {f m : Nat} (h : findU left m A = none) : chainU left B cl f m A = none := by
  cases f with
  | zero => rfl
  | succ f => rw [chainU, h]
theorem chain_some {left : List Atom} {B A : Int} {cl : Bool} {m i : Nat} (h : findU left m A = some i) : chainU left B cl (left.length - cntM left.length m) m A = if (gd left i).2.2 = B then some (m ||| 2 ^ i, [(i : Int)]) else
      if (gd left i).1 = 2 ∧ cl = false then none else (chainU left B cl (left.length - cntM left.length (m ||| 2 ^ i)) (m ||| 2 ^ i) (gd left i).2.2).map fun r => (r.1, (i : Int) :: r.2) := by
  obtain ⟨h1, _, h3⟩ := findU_some h
  have h4 := cntM_set h1 h3
  have h5 := cnt_leM left.length (m ||| 2 ^ i)
  rw [show left.length - cntM left.length m = (left.length - cntM left.length (m ||| 2 ^ i)) + 1 by omega, chainU, h]
end Go.Proofs.Ytapoillhgimdiaa
/- Walks: the matching of a case: the program's matchCase. -/
namespace Go.Proofs.Ytapoillhgimdiaa
open Go.RowKit

section
variable {α : Type} [Own α] [Tid α] {w0 w2 : World} {B : Nat} {v : Value} {l : List α} {T : Nat → Prop}
theorem OO.nil (w : World) (B : Nat) : OO w B (.slice none 0 0) ([] : List α) := ⟨[], OL.nil _ _, List.nodup_nil⟩
end
theorem asn_all' {a : Asn} (h : asnB a = true) : (a.1.all factB = true ∧ a.2.all atomB = true) ∧ a.2.length ≤ 6 := by
  simp only [asnB, factsB, Bool.and_eq_true, decide_eq_true_eq] at h
  exact ⟨⟨h.1.2, h.2.2⟩, h.2.1⟩
end Go.Proofs.Ytapoillhgimdiaa

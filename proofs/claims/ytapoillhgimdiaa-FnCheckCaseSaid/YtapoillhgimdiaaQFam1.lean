/- Fam1: texts Jn1, Jn2, Jn3 in one. -/
import Derived.Test.YtapoillhgimdiaaQData3
import Derived.Test.YtapoillhgimdiaaQData2
import Derived.Test.YtapoillhgimdiaaQCpy
import Derived.Deep.RegionHeld3
/- Walks: lists joined; copies of assertions, of the program. -/
namespace Go.Proofs.Ytapoillhgimdiaa
open Go.RowKit

end Go.Proofs.Ytapoillhgimdiaa
/- Walks: copies of assertions, of the program. -/
namespace Go.Proofs.Ytapoillhgimdiaa
open Go.RowKit

section
variable {α β : Type} [Own α] [Tid α] [Own β] [Tid β] {w w' w'' : World} {B B1 B2 : Nat} {v1 v2 : Value} {l1 : List α} {l2 : List β} {f1 f2 : List Nat} {a : List α × List β}
theorem OA.setB (h : OA w B v1 v2 a) {p : Addr} {u : Value} (hp : p.block < B) : OA (w.setCell p u) B v1 v2 a :=
  h.kept (fr_set _ _ _) fun k h1 _ e => by omega
/-- The two cells of a result are written. -/
theorem OA.res (h : OA w' B v1 v2 a) {R : Nat} (hR : R < B) (hB : w.heap.size ≤ R) (hb : Below w.heap.size w w') (x y : Value) :
    OA ((w'.setCell ⟨R, 0, none⟩ x).setCell ⟨R, 1, none⟩ y) w.heap.size v1 v2 a ∧ Below w.heap.size w ((w'.setCell ⟨R, 0, none⟩ x).setCell ⟨R, 1, none⟩ y) :=
  ⟨((h.setB hR).setB hR).mono (by omega), (hb.setCell hB _).setCell hB _⟩
end

end Go.Proofs.Ytapoillhgimdiaa
/- Walks: copies of families, of the program; families joined. -/
namespace Go.Proofs.Ytapoillhgimdiaa
open Go.RowKit

end Go.Proofs.Ytapoillhgimdiaa

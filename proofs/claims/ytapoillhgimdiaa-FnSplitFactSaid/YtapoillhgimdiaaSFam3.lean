/- Fam3: texts StarI, StarS, StarI2 in one. -/
import Derived.Test.YtapoillhgimdiaaSFam2
import Derived.Deep.RegionHeld3
/- Walks: the program's separating conjunction. -/
namespace Go.Proofs.Ytapoillhgimdiaa
open Go.RowKit

theorem asn_sz {a : Asn} (h : asnB a = true) : asSz a := by
  simp only [asnB, factsB, Bool.and_eq_true, decide_eq_true_eq] at h
  unfold asSz; omega
theorem OL.set2 {α : Type} [Own α] [Tid α] {w : World} {B : Nat} {v : Value} {l : List α} {fp : List Nat} (h : OL w B v l fp) {t : Nat} (ht : ∀ k ∈ fp, ¬ k = t) (x y : Value) :
    OL ((w.setCell ⟨t, 0, none⟩ x).setCell ⟨t, 1, none⟩ y) B v l fp :=
  (h.okept (fr_set _ _ _) fun k hk e => ht k hk e).okept (fr_set _ _ _) fun k hk e => ht k hk e

end Go.Proofs.Ytapoillhgimdiaa
/- Walks: the products of two families, in the reference. -/
namespace Go.Proofs.Ytapoillhgimdiaa
open Go.RowKit

end Go.Proofs.Ytapoillhgimdiaa
/- Walks: the products of two families, in the program. -/
namespace Go.Proofs.Ytapoillhgimdiaa
open Go.RowKit

theorem news2g (w : World) (g : Nat) (x y : Value) (e : TypeId) (h : w.heap.size = g) : 0 < 1 → ∃ b o, some (⟨g, 0, none⟩ : Addr) = some ⟨b, o, none⟩ ∧ ∀ j u, [x, y][j]? = some u → (w.alloc (.cells #[x, y] e)).cell? ⟨b, o + j, none⟩ = some u := by
  subst h; exact news2 w x y e

end Go.Proofs.Ytapoillhgimdiaa

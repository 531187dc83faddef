/- Fam3: texts StarI, StarS, StarI2 in one. -/
import Derived.Test.YtapoillhgimdiaaPFam2
import Derived.Deep.RegionHeld3
/- Walks: the program's separating conjunction. -/
namespace Go.Proofs.Ytapoillhgimdiaa
open Go.RowKit

theorem OL.set2 {α : Type} [Own α] [Tid α] {w : World} {B : Nat} {v : Value} {l : List α} {fp : List Nat} (h : OL w B v l fp) {t : Nat} (ht : ∀ k ∈ fp, ¬ k = t) (x y : Value) :
    OL ((w.setCell ⟨t, 0, none⟩ x).setCell ⟨t, 1, none⟩ y) B v l fp :=
  (h.okept (fr_set _ _ _) fun k hk e => ht k hk e).okept (fr_set _ _ _) fun k hk e => ht k hk e

end Go.Proofs.Ytapoillhgimdiaa
/- Walks: the products of two families, in the reference. -/
namespace Go.Proofs.Ytapoillhgimdiaa
open Go.RowKit

end Go.Proofs.Ytapoillhgimdiaa
/- Walks: the products of two families, in the program. -/
namespace Go.Proofs.Ytapoillhgimdiaa
open Go.RowKit

theorem fam_mem {l : List Asn} (h : famB l = true) {a : Asn} (ha : a ∈ l) : asnB a = true := by
  simp only [famB, Bool.and_eq_true, List.all_eq_true] at h
  exact h.2 a ha

end Go.Proofs.Ytapoillhgimdiaa

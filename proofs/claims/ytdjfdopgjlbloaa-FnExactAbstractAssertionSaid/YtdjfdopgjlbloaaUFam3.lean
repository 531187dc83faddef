/- Fam3: texts StarI, StarS, StarI2 in one. -/
import Derived.Test.YtdjfdopgjlbloaaUFam2
import Derived.Deep.RegionHeld3
/- Walks: the program's separating conjunction. -/
namespace Go.Proofs.Ytdjfdopgjlbloaa
open Go.RowKit

theorem oa_nil (w : World) (B : Nat) : OA w B (.slice none 0 0) (.slice none 0 0) (([], []) : Asn) := ⟨[], [], OL.nil _ _, OL.nil _ _, by simp⟩

theorem OL.set2 {α : Type} [Own α] [Tid α] {w : World} {B : Nat} {v : Value} {l : List α} {fp : List Nat} (h : OL w B v l fp) {t : Nat} (ht : ∀ k ∈ fp, ¬ k = t) (x y : Value) :
    OL ((w.setCell ⟨t, 0, none⟩ x).setCell ⟨t, 1, none⟩ y) B v l fp :=
  (h.okept (fr_set _ _ _) fun k hk e => ht k hk e).okept (fr_set _ _ _) fun k hk e => ht k hk e

end Go.Proofs.Ytdjfdopgjlbloaa
/- Walks: the products of two families, in the reference. -/
namespace Go.Proofs.Ytdjfdopgjlbloaa
open Go.RowKit

end Go.Proofs.Ytdjfdopgjlbloaa
/- Walks: the products of two families, in the program. -/
namespace Go.Proofs.Ytdjfdopgjlbloaa
open Go.RowKit

end Go.Proofs.Ytdjfdopgjlbloaa

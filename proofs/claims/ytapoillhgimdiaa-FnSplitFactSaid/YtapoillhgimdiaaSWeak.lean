/- Walks: the weaker one of two assertions. -/
import Derived.Test.YtapoillhgimdiaaSEnt1
import Derived.Test.YtapoillhgimdiaaSFam3
import Derived.Test.YtapoillhgimdiaaSData2
namespace Go.Proofs.Ytapoillhgimdiaa
open Go.RowKit

theorem RL.set2 {α : Type} [Dat α] {w : World} {B : Nat} {v : Value} {l : List α} (h : RL w (fun k => B ≤ k) v l) {R : Nat} (hR : R < B) (x y : Value) :
    RL ((w.setCell ⟨R, 0, none⟩ x).setCell ⟨R, 1, none⟩ y) (fun k => B ≤ k) v l :=
  (h.kept (fr_set w _ _) fun k _ h e => by have h2 : B ≤ k := h; have e2 : k = R := e; omega).kept (fr_set _ _ _) fun k _ h e => by have h2 : B ≤ k := h; have e2 : k = R := e; omega
end Go.Proofs.Ytapoillhgimdiaa

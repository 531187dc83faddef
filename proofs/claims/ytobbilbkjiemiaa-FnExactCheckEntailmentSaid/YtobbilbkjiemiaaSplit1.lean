/- Walks: assertions with one fact more; the other way of a fact. -/
import Derived.Test.YtobbilbkjiemiaaFam3
import Derived.Test.YtobbilbkjiemiaaData2
namespace Go.Proofs.Ytobbilbkjiemiaa
open Go.RowKit

/-- The other way of a fact; an assertion with one fact more. -/
def nF (f : Fact) : Fact := (!f.1, f.2)
def withF (a : Asn) (f : Fact) : Asn := (a.1 ++ [f], a.2)
theorem litF1 (W : World) (n : Nat) (hn : n = W.heap.size) (f : Fact) (T : TypeId) : RL (W.alloc (.cells #[.bool f.1, .int .i64 f.2.1, .int .i64 f.2.2] T)) (fun k => k = n) (.slice (some ⟨n, 0, none⟩) 1 1) [f] := by
  subst hn
  refine .inr ⟨W.heap.size, 0, 1, rfl, Nat.le_refl _, by unfold maxLen; omega, fun _ => ⟨rfl, by simp⟩, fun i hi => ⟨[.bool f.1, .int .i64 f.2.1, .int .i64 f.2.2], ?_, fun j u hj => ?_⟩⟩
  · obtain rfl : i = 0 := by simpa using hi
    exact ⟨[.bool f.1], [.int .i64 f.2.1, .int .i64 f.2.2], rfl, rfl, [.int .i64 f.2.1], [.int .i64 f.2.2], rfl, rfl, rfl⟩
  · obtain rfl : i = 0 := by simpa using hi
    match j, hj with
    | 0, hj => simp at hj; subst hj; simp
    | 1, hj => simp at hj; subst hj; simp
    | 2, hj => simp at hj; subst hj; simp
end Go.Proofs.Ytobbilbkjiemiaa

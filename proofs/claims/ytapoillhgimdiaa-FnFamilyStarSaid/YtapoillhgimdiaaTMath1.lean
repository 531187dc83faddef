/- Draw2: texts Dr3, Dr4, Dr5, Dr6, Dr7 in one. -/
import Derived.Test.YtapoillhgimdiaaTDraw1
import Derived.Test.YtapoillhgimdiaaTBase2
import Derived.Deep.DeepMust
import Derived.Test.YtapoillhgimdiaaTBase3
/- Walks: drawing states with lists. -/
namespace Go.Proofs.Ytapoillhgimdiaa
open Go.RowKit

section
variable {w0 w w' : World} {g q q' B bA bB : Nat} {v1 v2 : Value} {l1 l2 : List Int}
end

end Go.Proofs.Ytapoillhgimdiaa
/- Walks: copies of states in the reference; changed states. -/
namespace Go.Proofs.Ytapoillhgimdiaa
open Go.RowKit

theorem news_of {w : World} {b o n c : Nat} {l : List Int} (h : RInts w (.slice (some ⟨b, o, none⟩) n c) l) : ∀ j u, (ints l)[j]? = some u → w.cell? ((⟨b, o, none⟩ : Addr).add j) = some u := by
  intro j u hj
  have hjl : j < l.length := by
    rcases Nat.lt_or_ge j l.length with h | h
    · exact h
    · rw [List.getElem?_eq_none (by simpa [ints] using h)] at hj; cases hj
  have hu : u = .int .i64 (gi l j) := by
    simp [ints, hjl] at hj; rw [gi_of hjl, ← hj]
  have := (h.at j hjl).2
  have e : (⟨b, o, none⟩ : Addr).add j = ⟨b, o + j, none⟩ := by unfold Addr.add; split <;> simp_all
  rw [e, this, hu]

theorem RInts.news {w : World} {b o c : Nat} {l : List Int} (h : RInts w (.slice (some ⟨b, o, none⟩) l.length c) l) : ∀ j u, (ints l)[j]? = some u → w.cell? ((⟨b, o, none⟩ : Addr).add j) = some u := news_of h

end Go.Proofs.Ytapoillhgimdiaa
namespace Go.Proofs.Ytapoillhgimdiaa
open Go.RowKit
section
variable {w0 w : World} {g q B bA bB : Nat} {v1 v2 : Value} {l1 l2 : List Int}
theorem DrSt.done (h : DrSt w0 w g q B bA bB v1 v2 l1 l2) (hB : bA < B) (hA : w0.heap.size ≤ bA) (hg : g < w0.heap.size) (x y : Value) :
    OwnSt ((w.setCell ⟨bA, 0, none⟩ x).setCell ⟨bA, 1, none⟩ y) B v1 v2 l1 l2 ∧ Rdr ((w.setCell ⟨bA, 0, none⟩ x).setCell ⟨bA, 1, none⟩ y) g q ∧ Fr (fun j => j = g) w0 ((w.setCell ⟨bA, 0, none⟩ x).setCell ⟨bA, 1, none⟩ y) := by
  refine ⟨?_, ?_, ?_⟩
  · exact (h.own.kept (fr_set _ _ _) (fun k h1 _ e => by simp at e; omega)).kept (fr_set _ _ _) (fun k h1 _ e => by simp at e; omega)
  · exact (h.rdr.kept (fr_set _ _ _) (fun k h1 e => by simp at e; omega)).kept (fr_set _ _ _) (fun k h1 e => by simp at e; omega)
  · exact (h.fr.then (fr_set _ _ _) (fun i hi e => by simp at e; omega)).then (fr_set _ _ _) (fun i hi e => by simp at e; omega)
end
end Go.Proofs.Ytapoillhgimdiaa
namespace Go.Proofs.Ytapoillhgimdiaa
open Go.RowKit

theorem RBytes.keep {w w' : World} {v : Value} {n : Nat} (h : RBytes w v n) (hb : Below w.heap.size w w') : RBytes w' v n := by
  obtain ⟨c, hr, hc⟩ := h
  exact ⟨c, hr.keep hb, hc⟩

end Go.Proofs.Ytapoillhgimdiaa
/- Walks: draws that pass others on. -/
namespace Go.Proofs.Ytapoillhgimdiaa
open Go.RowKit

end Go.Proofs.Ytapoillhgimdiaa
/- Math1: texts DMath, DMath2, DMath3, Sl1, Sl2, Sl3 in one. -/
/- Plain facts on reaching, for the drawn laws. -/
namespace Go.Proofs.Ytapoillhgimdiaa

end Go.Proofs.Ytapoillhgimdiaa
/- Plain facts on cycles, for the drawn laws. -/
namespace Go.Proofs.Ytapoillhgimdiaa

end Go.Proofs.Ytapoillhgimdiaa
/- Plain facts on garbage, for the drawn laws. -/
namespace Go.Proofs.Ytapoillhgimdiaa

theorem sel_nodup (p : Nat → Bool) (a k : Nat) : (sel p a k).Nodup := by
  unfold sel
  refine List.Pairwise.map _ ?_ ((List.nodup_range' (step := 1)).filter _)
  intro x y hxy e
  exact hxy (by have : (x : Int) = (y : Int) := e; omega)

end Go.Proofs.Ytapoillhgimdiaa
/- Walks: small helpers of the drawn laws; reading a cell; tests. -/
namespace Go.Proofs.Ytapoillhgimdiaa
open Go.RowKit

end Go.Proofs.Ytapoillhgimdiaa
/- Walks: tests of facts. -/
namespace Go.Proofs.Ytapoillhgimdiaa
open Go.RowKit

theorem bytes_form {w : World} {v : Value} {n : Nat} (h : RBytes w v n) : ∃ a cap, v = .slice a n cap := by
  obtain ⟨_, hr, _⟩ := h
  rcases hr with ⟨a, cap, rfl, h0, _⟩ | ⟨b, o, cap, rfl, _⟩
  · exact ⟨a, cap, by rw [h0]⟩
  · exact ⟨_, cap, rfl⟩

end Go.Proofs.Ytapoillhgimdiaa
/- Walks: a walk that never ends. -/
namespace Go.Proofs.Ytapoillhgimdiaa
open Go.RowKit

end Go.Proofs.Ytapoillhgimdiaa

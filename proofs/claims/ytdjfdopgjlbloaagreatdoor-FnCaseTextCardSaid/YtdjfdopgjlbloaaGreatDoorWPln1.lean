/- ChkA: texts Chk1, Chk2 in one. -/
import Derived.Test.YtdjfdopgjlbloaaGreatDoorWRens
import Derived.Test.YtdjfdopgjlbloaaGreatDoorWData1
import Derived.Deep.Cut
import Derived.Handy
import Derived.Test.YtdjfdopgjlbloaaGreatDoorWAllA
import Derived.Test.YtdjfdopgjlbloaaGreatDoorWItrB
import Derived.Test.YtdjfdopgjlbloaaGreatDoorWPrvA
/- Walks: equal lists of numbers: the reference (l2Ints). -/
namespace Go.Proofs.YtdjfdopgjlbloaaGreatDoor
open Go.RowKit

end Go.Proofs.YtdjfdopgjlbloaaGreatDoor
/- Walks: the check of the proofs of all cases: the reference. -/
namespace Go.Proofs.YtdjfdopgjlbloaaGreatDoor
open Go.RowKit

end Go.Proofs.YtdjfdopgjlbloaaGreatDoor
/- The plain laws of proofs: what is found is accepted, and only that; the proofs of all cases. -/
namespace Go.Proofs.YtdjfdopgjlbloaaGreatDoor
open Go.RowKit

theorem prove_small (a b : Asn) (cl : List Int) : Mk.size (proveR a b cl) ≤ 60 := by
  cases hp : provC a b cl with
  | none => rw [proveR, hp]; show 0 + (0 + 0) ≤ 60; omega
  | some us =>
    obtain ⟨⟨⟨ha, hb⟩, hr⟩, _, m, hall⟩ := provC_some hp
    have h6 := Nat.le_trans (filledL_len cl a.2) (asn_all' ha).2
    have hr6 := Nat.le_trans (filledL_len cl b.2) (asn_all' hb).2
    have hs := sum_six us (goals_all h6 hall)
    have hl := goals_len hall
    have hc := read_len hr
    rw [proveR, hp]
    show cl.length + (us.length + (us.map (Mk.size (α := List Int))).sum) ≤ 60
    omega
theorem sum_cap {α : Type} {f : α → Nat} {c : Nat} : ∀ (l : List α), (∀ x ∈ l, f x ≤ c) → (l.map f).sum ≤ c * l.length
  | [], _ => by simp
  | x :: r, h => by
    have h1 := sum_cap r fun u hu => h u (List.mem_cons_of_mem _ hu)
    have h2 := h x List.mem_cons_self
    simp only [List.map_cons, List.sum_cons, List.length_cons, Nat.mul_succ]
    omega
end Go.Proofs.YtdjfdopgjlbloaaGreatDoor

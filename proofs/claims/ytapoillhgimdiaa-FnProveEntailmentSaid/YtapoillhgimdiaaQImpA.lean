/- ImpA: texts Imp, ImpI in one. -/
import Derived.Test.YtapoillhgimdiaaQCsA
import Derived.Test.YtapoillhgimdiaaQSplA
import Derived.Test.YtapoillhgimdiaaQItrB
import Derived.Deep.RegionHeld3
/- The plain law of splitting: the parts of an assertion, and what it implies. -/
namespace Go.Proofs.Ytapoillhgimdiaa
open Go.RowKit

end Go.Proofs.Ytapoillhgimdiaa
/- Walks: whether an assertion implies a fact: the program. -/
namespace Go.Proofs.Ytapoillhgimdiaa
open Go Go.RowKit

attribute [local go_sem] Oper.semAt_some
/-- One result variable, a cell. -/
theorem res_one {P : Program} {fn : Func} {p : Tmp} (h : fn.results = #[.cell p 4]) {tmps : Array Value} {W : World} {D g : Nat} {b : Bool} (hP : P = Try.prog)
    (hp : tmps.getD p undef = .pointer (some ⟨g, 0, none⟩)) (h2 : W.cell? ⟨g, 0, none⟩ = some (.bool b)) (d1 : ¬ g = D) :
    (results fn tmps).run P (W.putObj D (.deferred none)) = .ok (.bool b) (W.putObj D (.deferred none)) := by
  subst hP
  have hp' : tmps[p]?.getD undef = .pointer (some ⟨g, 0, none⟩) := by simpa using hp
  simp [results, h, hp', asAddr, load_bool ((fr_put W D _).cell d1 h2)]
end Go.Proofs.Ytapoillhgimdiaa

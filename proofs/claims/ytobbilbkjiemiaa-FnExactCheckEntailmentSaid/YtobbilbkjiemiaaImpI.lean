/- Walks: whether an assertion implies a fact: the program. -/
import Derived.Test.YtobbilbkjiemiaaImp
import Derived.Test.YtobbilbkjiemiaaItrB
import Derived.Deep.RegionHeld3
namespace Go.Proofs.Ytobbilbkjiemiaa
open Go Go.RowKit

attribute [local go_sem] Oper.semAt_some
/-- One result variable, a cell. -/
theorem res_one {P : Program} {fn : Func} {p : Tmp} (h : fn.results = #[.cell p 4]) {tmps : Array Value} {W : World} {D g : Nat} {b : Bool} (hP : P = Try.prog)
    (hp : tmps.getD p undef = .pointer (some ⟨g, 0, none⟩)) (h2 : W.cell? ⟨g, 0, none⟩ = some (.bool b)) (d1 : ¬ g = D) :
    (results fn tmps).run P (W.putObj D (.deferred none)) = .ok (.bool b) (W.putObj D (.deferred none)) := by
  subst hP
  have hp' : tmps[p]?.getD undef = .pointer (some ⟨g, 0, none⟩) := by simpa using hp
  simp [results, h, hp', asAddr, load_bool ((fr_put W D _).cell d1 h2)]
theorem imp_lt (a : Asn) (f : Fact) : impM a f < 65536 := Nat.or_lt_two_pow (n := 16) (termM_lt (termsM_lt a)) (termM_lt (termM_lt (by decide)))
end Go.Proofs.Ytobbilbkjiemiaa

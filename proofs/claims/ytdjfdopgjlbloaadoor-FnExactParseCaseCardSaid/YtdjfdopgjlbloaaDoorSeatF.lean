/- Closed facts of the seat's program that every claim needs. -/
import Derived.Test.YtdjfdopgjlbloaaDoorChecked
import Derived.WalkKit
namespace Go.Proofs.YtdjfdopgjlbloaaDoor
open Go

theorem seat_enters : Tryd.checked.prog.mayEnter = true := by as_aux_lemma => kernel_rfl
theorem seat_lifts : Tryd.checked.prog.liftsFinal = false := by as_aux_lemma => kernel_rfl
theorem seat_make : Tryd.checked.prog.make = some .cut := by as_aux_lemma => kernel_rfl
end Go.Proofs.YtdjfdopgjlbloaaDoor

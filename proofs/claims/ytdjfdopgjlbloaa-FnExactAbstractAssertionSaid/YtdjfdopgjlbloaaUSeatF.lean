/- Closed facts of the seat's program that every claim needs. -/
import Derived.Test.YtdjfdopgjlbloaaChecked
import Derived.WalkKit
namespace Go.Proofs.Ytdjfdopgjlbloaa
open Go

theorem seat_enters : Try.checked.prog.mayEnter = true := by as_aux_lemma => kernel_rfl
theorem seat_lifts : Try.checked.prog.liftsFinal = false := by as_aux_lemma => kernel_rfl
theorem seat_make : Try.checked.prog.make = some .cut := by as_aux_lemma => kernel_rfl
end Go.Proofs.Ytdjfdopgjlbloaa

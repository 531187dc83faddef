/- Lists whose elements all, or of which some, have a property: as far as the element k. -/
import Derived.Test.YtdjfdopgjlbloaaVHold1
import Derived.Test.YtdjfdopgjlbloaaVEnt1
namespace Go.Proofs.Ytdjfdopgjlbloaa
open Go.RowKit

end Go.Proofs.Ytdjfdopgjlbloaa
/- Walks: entailment of families: the program, the reference. -/
namespace Go.Proofs.Ytdjfdopgjlbloaa
open Go.RowKit

end Go.Proofs.Ytdjfdopgjlbloaa

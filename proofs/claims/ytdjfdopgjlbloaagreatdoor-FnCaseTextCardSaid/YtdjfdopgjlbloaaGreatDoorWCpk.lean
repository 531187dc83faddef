/- CaseProof data of the door seats: the part of CaseD that no case stack is needed for. -/
import Derived.Test.YtdjfdopgjlbloaaGreatDoorWFam2
/- Laws of the helpers: proofs of cases. -/
namespace Go.Proofs.YtdjfdopgjlbloaaGreatDoor
open Go.RowKit

end Go.Proofs.YtdjfdopgjlbloaaGreatDoor

/- Walks: assertions that are equal are the same. (Printed by gen_sam.py.) -/
import Derived.Test.YtdjfdopgjlbloaaGreatDoorWFam2
import Derived.Laws.StructEq
import Derived.Deep.RegionHeld3
import Derived.Handy
namespace Go.Proofs.YtdjfdopgjlbloaaGreatDoor
open Go.RowKit

end Go.Proofs.YtdjfdopgjlbloaaGreatDoor

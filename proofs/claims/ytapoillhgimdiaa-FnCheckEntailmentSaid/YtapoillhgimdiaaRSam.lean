/- Walks: assertions that are equal are the same. (Printed by gen_sam.py.) -/
import Derived.Test.YtapoillhgimdiaaRData2
import Derived.Laws.StructEq
import Derived.Deep.RegionHeld3
import Derived.Handy
namespace Go.Proofs.Ytapoillhgimdiaa
open Go.RowKit

end Go.Proofs.Ytapoillhgimdiaa

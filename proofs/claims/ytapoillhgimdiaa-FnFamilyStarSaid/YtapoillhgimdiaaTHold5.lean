/- Walks: the cells that an atom describes: the reference. -/
import Derived.Test.YtapoillhgimdiaaTHold4
namespace Go.Proofs.Ytapoillhgimdiaa
open Go.RowKit

end Go.Proofs.Ytapoillhgimdiaa

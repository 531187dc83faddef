/- Walks: the cells that an atom describes: the reference. -/
import Derived.Test.YthoingdcmdhllaaHold4
namespace Go.Proofs.Ythoingdcmdhllaa
open Go.RowKit

end Go.Proofs.Ythoingdcmdhllaa

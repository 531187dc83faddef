/- RndA: texts Rnd, Rnd2 in one. -/
import Derived.Test.YtapoillhgimdiaaQImpA
import Derived.Sort.QuietThIn
import Derived.Sort.BigQuietIn
import Derived.Test.YtapoillhgimdiaaQHeldD
/- In a round of a range: a region is walked as outside a round; a drawn region whose calls only allocate. -/
namespace Go.Proofs.Ytapoillhgimdiaa
open Go Go.RowKit

end Go.Proofs.Ytapoillhgimdiaa
/- In a round of a range: a drawn region in which a cell is read first and written last. -/
namespace Go.Proofs.Ytapoillhgimdiaa
open Go Go.RowKit

end Go.Proofs.Ytapoillhgimdiaa

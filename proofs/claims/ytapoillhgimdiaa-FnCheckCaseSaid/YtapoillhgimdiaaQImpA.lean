/- ImpA: texts Imp, ImpI in one. -/
import Derived.Test.YtapoillhgimdiaaQCsA
import Derived.Test.YtapoillhgimdiaaQSplA
import Derived.Test.YtapoillhgimdiaaQItrB
import Derived.Deep.RegionHeld3
/- The plain law of splitting: the parts of an assertion, and what it implies. -/
namespace Go.Proofs.Ytapoillhgimdiaa
open Go.RowKit

end Go.Proofs.Ytapoillhgimdiaa
/- Walks: whether an assertion implies a fact: the program. -/
namespace Go.Proofs.Ytapoillhgimdiaa
open Go Go.RowKit

attribute [local go_sem] Oper.semAt_some
end Go.Proofs.Ytapoillhgimdiaa

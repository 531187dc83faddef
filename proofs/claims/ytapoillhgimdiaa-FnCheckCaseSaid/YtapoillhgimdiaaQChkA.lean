/- ChkA: texts Chk1, Chk2 in one. -/
import Derived.Test.YtapoillhgimdiaaQCpy
import Derived.Test.YtapoillhgimdiaaQData1
import Derived.Deep.Cut
import Derived.Handy
import Derived.Test.YtapoillhgimdiaaQAllA
import Derived.Test.YtapoillhgimdiaaQCase13
/- Walks: equal lists of numbers: the reference (l2Ints). -/
namespace Go.Proofs.Ytapoillhgimdiaa
open Go.RowKit

end Go.Proofs.Ytapoillhgimdiaa
/- Walks: the check of the proofs of all cases: the reference. -/
namespace Go.Proofs.Ytapoillhgimdiaa
open Go.RowKit

end Go.Proofs.Ytapoillhgimdiaa

/- CaseD: texts Case15, Case16 in one. -/
import Derived.Test.YtapoillhgimdiaaQData2
import Derived.Test.YtapoillhgimdiaaQCaseC
/- Laws of the helpers: proofs of cases. -/
namespace Go.Proofs.Ytapoillhgimdiaa
open Go.RowKit

end Go.Proofs.Ytapoillhgimdiaa
/- Laws of the helpers: lists of proofs of cases. Printed by gen_cps.py. -/
namespace Go.Proofs.Ytapoillhgimdiaa
open Go.RowKit

end Go.Proofs.Ytapoillhgimdiaa

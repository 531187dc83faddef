/- Walks: marks of states. -/
import Derived.Test.YtnhhfbhhglhocaaL2
namespace Go.Proofs.Ytnhhfbhhglhocaa
open Go.RowKit

end Go.Proofs.Ytnhhfbhhglhocaa

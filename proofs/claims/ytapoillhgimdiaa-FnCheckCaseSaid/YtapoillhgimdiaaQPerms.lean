/- Perms: texts Perm, Perm2, Perm3 in one. -/
import Derived.Test.YtapoillhgimdiaaQBase1
import Derived.Test.YtapoillhgimdiaaQMath1
/- Names of addresses, in plain Lean: permutations of the numbers from 1 to 8. -/
namespace Go.Proofs.Ytapoillhgimdiaa

end Go.Proofs.Ytapoillhgimdiaa
/- Names of addresses, in plain Lean: the names back; renamed states are valid; as many cells. -/
namespace Go.Proofs.Ytapoillhgimdiaa

end Go.Proofs.Ytapoillhgimdiaa
/- Renamed heaps, in plain Lean: contents, allocated cells, how many. -/
namespace Go.Proofs.Ytapoillhgimdiaa

end Go.Proofs.Ytapoillhgimdiaa

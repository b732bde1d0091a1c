-- Words of the kit's print, cut down by this session's program prune.py to those that the claim uses.
import Derived.Test.YtogonichanoeaaaGreatDoorWInv
import Derived.Test.YtogonichanoeaaaGreatDoorWFootNe
namespace Go.Proofs.YtogonichanoeaaaGreatDoorW.PrintWords
open Go.RowKit
end Go.Proofs.YtogonichanoeaaaGreatDoorW.PrintWords
namespace Go.Proofs.YtogonichanoeaaaGreatDoorW.PrintLast
end Go.Proofs.YtogonichanoeaaaGreatDoorW.PrintLast

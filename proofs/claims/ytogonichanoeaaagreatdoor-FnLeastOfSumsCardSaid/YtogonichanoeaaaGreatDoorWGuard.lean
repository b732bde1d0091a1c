-- Words of the kit's print, cut down by this session's program prune.py to those that the claim uses.
import Derived.Test.YtogonichanoeaaaGreatDoorWWords
/-! ### 58. A guarded operation whose guard is known to want it: the same goal without the guard -/
namespace Go.Proofs.YtogonichanoeaaaGreatDoorW.PrintWords
open Go.RowKit
end Go.Proofs.YtogonichanoeaaaGreatDoorW.PrintWords

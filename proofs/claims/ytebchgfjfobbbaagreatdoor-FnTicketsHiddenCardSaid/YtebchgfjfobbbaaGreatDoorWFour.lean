-- Words of the kit's print, cut down by this session's program prune.py to those that the claim uses.
import Derived.Test.YtebchgfjfobbbaaGreatDoorWTab
/-! ### 56. Four, five, six operations that may come up next, in any order -/
namespace Go.Proofs.YtebchgfjfobbbaaGreatDoorW.PrintLast
end Go.Proofs.YtebchgfjfobbbaaGreatDoorW.PrintLast

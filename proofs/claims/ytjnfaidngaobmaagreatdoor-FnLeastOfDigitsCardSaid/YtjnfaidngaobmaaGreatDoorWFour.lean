-- Words of the kit's print, cut down by this session's program prune.py to those that the claim uses.
import Derived.Test.YtjnfaidngaobmaaGreatDoorWTab
/-! ### 56. Four, five, six operations that may come up next, in any order -/
namespace Go.Proofs.YtjnfaidngaobmaaGreatDoorW.PrintLast
end Go.Proofs.YtjnfaidngaobmaaGreatDoorW.PrintLast

-- Words of the kit's print, cut down by this session's program prune.py to those that the claim uses.
import Derived.Test.YtmfbjhkhgkphcaaGreatDoorWN
/-! ### 52. A row that stays read whatever happens to a block (a set of blocks) doesn't lie there -/
namespace Go.Proofs.YtmfbjhkhgkphcaaGreatDoorW.PrintWords
open Go.RowKit
namespace Kd
end Kd
end Go.Proofs.YtmfbjhkhgkphcaaGreatDoorW.PrintWords

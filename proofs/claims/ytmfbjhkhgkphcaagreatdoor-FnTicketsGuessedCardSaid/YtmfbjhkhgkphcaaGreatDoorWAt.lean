-- Words of the kit's print, cut down by this session's program prune.py to those that the claim uses.
import Derived.Test.YtmfbjhkhgkphcaaGreatDoorWFootNe
/-! ### 54. Behind orders that were drawn quietly: the same facts at the world's new name; a flat row's foot -/
namespace Go.Proofs.YtmfbjhkhgkphcaaGreatDoorW.PrintWords
open Go.RowKit
namespace Kd
end Kd
end Go.Proofs.YtmfbjhkhgkphcaaGreatDoorW.PrintWords

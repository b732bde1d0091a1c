-- Words of the kit's print, cut down by this session's program prune.py to those that the claim uses.
import Derived.Test.YtmfbjhkhgkphcaaGreatDoorWN
/-! ### 48. N's events: append, a whole row appended, zeros appended, literals, make, stores, cuts, an element taken out -/
namespace Go.Proofs.YtmfbjhkhgkphcaaGreatDoorW.PrintWords
open Go.RowKit
namespace Kd
end Kd
end Go.Proofs.YtmfbjhkhgkphcaaGreatDoorW.PrintWords

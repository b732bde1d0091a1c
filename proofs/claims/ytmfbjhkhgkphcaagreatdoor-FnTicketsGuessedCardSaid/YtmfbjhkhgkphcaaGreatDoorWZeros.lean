-- Words of the kit's print, cut down by this session's program prune.py to those that the claim uses.
import Derived.Test.YtmfbjhkhgkphcaaGreatDoorWApart
import Derived.Test.YtmfbjhkhgkphcaaGreatDoorWArr
/-! ### 42. append(v, make([]T, n)...): the operation comes as_ append with the number in the second place -/
namespace Go.Proofs.YtmfbjhkhgkphcaaGreatDoorW.PrintWords
open Go.RowKit
namespace Kd
/-! #### the same for rows whose elements lie apart -/
end Kd
end Go.Proofs.YtmfbjhkhgkphcaaGreatDoorW.PrintWords

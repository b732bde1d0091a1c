-- Words of the kit's print, cut down by this session's program prune.py to those that the claim uses.
import Derived.Test.YtmfbjhkhgkphcaaGreatDoorWInv
import Derived.Test.YtmfbjhkhgkphcaaGreatDoorWFootNe
namespace Go.Proofs.YtmfbjhkhgkphcaaGreatDoorW.PrintWords
open Go.RowKit
end Go.Proofs.YtmfbjhkhgkphcaaGreatDoorW.PrintWords
namespace Go.Proofs.YtmfbjhkhgkphcaaGreatDoorW.PrintLast
end Go.Proofs.YtmfbjhkhgkphcaaGreatDoorW.PrintLast

-- Words of the kit's print, cut down by this session's program prune.py to those that the claim uses.
import Derived.Test.YtjnfaidngaobmaaGreatDoorWInv
import Derived.Test.YtjnfaidngaobmaaGreatDoorWFootNe
namespace Go.Proofs.YtjnfaidngaobmaaGreatDoorW.PrintWords
open Go.RowKit
end Go.Proofs.YtjnfaidngaobmaaGreatDoorW.PrintWords
namespace Go.Proofs.YtjnfaidngaobmaaGreatDoorW.PrintLast
end Go.Proofs.YtjnfaidngaobmaaGreatDoorW.PrintLast

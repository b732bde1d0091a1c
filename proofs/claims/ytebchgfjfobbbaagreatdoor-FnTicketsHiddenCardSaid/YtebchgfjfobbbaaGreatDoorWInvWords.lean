-- Words of the kit's print, cut down by this session's program prune.py to those that the claim uses.
import Derived.Test.YtebchgfjfobbbaaGreatDoorWInv
import Derived.Test.YtebchgfjfobbbaaGreatDoorWFootNe
namespace Go.Proofs.YtebchgfjfobbbaaGreatDoorW.PrintWords
open Go.RowKit
end Go.Proofs.YtebchgfjfobbbaaGreatDoorW.PrintWords
namespace Go.Proofs.YtebchgfjfobbbaaGreatDoorW.PrintLast
end Go.Proofs.YtebchgfjfobbbaaGreatDoorW.PrintLast

-- Words of the kit's print, cut down by this session's program prune.py to those that the claim uses.
import Derived.Test.YtjnfaidngaobmaaGreatDoorWWords
import Derived.Laws.StructEq
/-! ### 53. '==' of structs as_ one Bool -/
namespace Go.Proofs.YtjnfaidngaobmaaGreatDoorW.PrintWords
open Go.RowKit
end Go.Proofs.YtjnfaidngaobmaaGreatDoorW.PrintWords

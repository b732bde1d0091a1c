-- Words of the kit's print, cut down by this session's program prune.py to those that the claim uses.
import Derived.Test.YtebchgfjfobbbaaGreatDoorWWords
/-! ### 41. Arrays '[n]T' as_ values: a kind (a field, an element of a row), an element read, an element set -/
namespace Go.Proofs.YtebchgfjfobbbaaGreatDoorW.PrintWords
open Go.RowKit
namespace Kd
end Kd
end Go.Proofs.YtebchgfjfobbbaaGreatDoorW.PrintWords

-- Words of the kit's print, cut down by this session's program prune.py to those that the claim uses.
import Derived.Test.YtebchgfjfobbbaaGreatDoorWN
/-! ### 48. N's events: append, a whole row appended, zeros appended, literals, make, stores, cuts, an element taken out -/
namespace Go.Proofs.YtebchgfjfobbbaaGreatDoorW.PrintWords
open Go.RowKit
namespace Kd
end Kd
end Go.Proofs.YtebchgfjfobbbaaGreatDoorW.PrintWords

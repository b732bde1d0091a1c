import Derived.Test.YtgpakeadepcgnaaDoorProg
import Derived.Shelf.Lay
import Derived.Shelf.Strconv.Itoa0
import Derived.Shelf.Strconv.Itoa3
namespace Go.Proofs.YtgpakeadepcgnaaDoor.Shelf
open Go.Shelf Go.Lib Go.RowKit
shelf_lay Lays.n171 Nm 171 at Tryd as YtgpakeadepcgnaaDoor.lays171
theorem Itoa_small (i : Nat) (hi : i < 100) (w : World) :
    Calls Tryd.prog 94 #[.int .i64 i] w fun e w' => e = .returned (.string ⟨(Lib.decDigits i).toArray⟩) ∧ w' = w := Any.strconv_Itoa_small YtgpakeadepcgnaaDoor.lays171 i hi w
shelf_lay Lays.n129 Nm 129 at Tryd as YtgpakeadepcgnaaDoor.lays129
theorem Len64 (x : Int) (w : World) (h0 : 0 ≤ x) (h1 : x ≤ 18446744073709551615) :
    Calls Tryd.prog 158 #[.int .u64 x] w fun e w' => e = .returned (.int .i64 (Lib.bitLen x.toNat)) ∧ w' = w := Any.bits_Len64 YtgpakeadepcgnaaDoor.lays129 x w h0 h1
end Go.Proofs.YtgpakeadepcgnaaDoor.Shelf

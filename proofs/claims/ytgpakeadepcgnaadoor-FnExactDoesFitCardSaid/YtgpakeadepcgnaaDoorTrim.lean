import Derived.Test.YtgpakeadepcgnaaDoorProg
import Derived.Shelf.Lay
import Derived.Shelf.Strings.SlTrimAscii
import Derived.KernelRfl
namespace Go.Proofs.YtgpakeadepcgnaaDoor.Shelf
open Go.Shelf Go.Lib Go.RowKit
shelf_lay Lays.n160 Nm 160 at Tryd as YtgpakeadepcgnaaDoor.lays160
theorem Trim (s cutset : ByteArray) (w : World) (hs : s.size ≤ 9223372036854775807) (hcs : cutset.size < 4294967281) (hascii : cutset.data.toList.all (fun b => decide (b.toNat < 128)) = true) :
    Calls Tryd.prog 84 #[.string s, .string cutset] w fun e w' => e = .returned (.string ⟨(Lib.trimS s.data.toList cutset.data.toList).toArray⟩) ∧ Below w.heap.size w w' := Any.strings_Trim_laid YtgpakeadepcgnaaDoor.lays160 (by kernel_rfl) s cutset w hs hcs (ascii_of_all hascii)
end Go.Proofs.YtgpakeadepcgnaaDoor.Shelf

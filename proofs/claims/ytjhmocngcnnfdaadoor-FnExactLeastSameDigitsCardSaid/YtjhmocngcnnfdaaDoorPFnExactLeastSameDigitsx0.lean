-- Laid by this session's program gprint.py over the kit's print.
import Derived.Test.YtjhmocngcnnfdaaDoorFn
import Derived.Test.YtjhmocngcnnfdaaDoorProg
import Derived.Below
import Derived.Deep.Draws
import Derived.Deep.AppendLies
import Derived.Maps.AppendAt
import Derived.OwnWalk
import Derived.Laws.BytesArg
import Derived.Laws.MakeOwn
import Derived.Laws.OwnMore
import Derived.Deep.OwnRows
import Derived.Tactics
import Derived.Lib.ConvBytes
import Derived.Laws.Slices
import Derived.WalkKit
import Derived.KernelRfl
import Derived.RowKit3
import Derived.Deep.LoopGhost
import Derived.Deep.QuietTactic
import Derived.BigQuiet
import Derived.WideLaws
import Derived.Deep.DeepCutAuto
import Derived.Deep.CutBlock
import Derived.Deep.RegionHeld3
import Derived.Laws.Rows
import Derived.Lib.AppendStr
import Derived.ArgAppend
import Derived.Laws.IdiomCopy
import Derived.OrdersHeld
import Derived.Laws.BitsLemmas
import Derived.RowKit
import Derived.Test.YtjhmocngcnnfdaaDoorItoa
import Derived.Test.YtjhmocngcnnfdaaDoorBytes
import Derived.Test.YtjhmocngcnnfdaaDoorSortB
import Derived.Test.YtjhmocngcnnfdaaDoorWWords
import Derived.Test.YtjhmocngcnnfdaaDoorWLast
import Derived.Test.YtjhmocngcnnfdaaDoorWTab
import Derived.Test.YtjhmocngcnnfdaaDoorWFour
import Derived.Test.YtjhmocngcnnfdaaDoorWQPut
import Derived.Test.YtjhmocngcnnfdaaDoorWApart
import Derived.Test.YtjhmocngcnnfdaaDoorWArr
import Derived.Test.YtjhmocngcnnfdaaDoorWZeros
import Derived.Test.YtjhmocngcnnfdaaDoorWFoot
import Derived.Test.YtjhmocngcnnfdaaDoorWKept
import Derived.Test.YtjhmocngcnnfdaaDoorWShare
import Derived.Test.YtjhmocngcnnfdaaDoorWN
import Derived.Test.YtjhmocngcnnfdaaDoorWFootNe
import Derived.Test.YtjhmocngcnnfdaaDoorWAt
import Derived.Test.YtjhmocngcnnfdaaDoorWEqStruct
import Derived.Test.YtjhmocngcnnfdaaDoorWRepsOne
import Derived.Test.YtjhmocngcnnfdaaDoorWInv
import Derived.Test.YtjhmocngcnnfdaaDoorWInvWords
import Derived.Test.YtjhmocngcnnfdaaDoorWGuard
import Derived.Test.YtjhmocngcnnfdaaDoorWNEv
import Derived.Test.YtjhmocngcnnfdaaDoorWMore
namespace Go.Proofs.YtjhmocngcnnfdaaDoor.PFnExactLeastSameDigits
open Go.RowKit Go.Proofs.YtjhmocngcnnfdaaDoorW.PrintWords Go.Proofs.YtjhmocngcnnfdaaDoorW.PrintLast Go.Proofs.YtjhmocngcnnfdaaDoorW.PrintMore
attribute [local go_sem] max2_int min2_int max_two min_two max_three min_three max_four min_four   -- for this text's walks alone
set_option linter.unusedVariables false
set_option linter.unusedSimpArgs false



def errW : Option Int → Value
 | none => .nilIface
 | some c => .iface 0 (.int .i64 c)
theorem errW_none : errW none = .nilIface := rfl
theorem errW_some (c : Int) : errW (some c) = .iface 0 (.int .i64 c) := rfl

theorem dead_ {r : Bool} {x : Option Bool} {P : Prop} (e : x = some false) (H : x = some r) (h : Aside0 (r = true)) : P := Bool.noConfusion ((Option.some.inj (e.symm.trans H)).trans h.out)
theorem none_ {α : Type} {r : α} {x : Option α} {P : Prop} (e : x = none) (H : x = some r) : P := by rw [e] at H; cases H
theorem lit_size_ (a : Array UInt8) : (⟨a⟩ : ByteArray).size = a.size := rfl
theorem info3 : (Tryd.prog.info? 3).map (fun i => (i.zero, i.size, i.bytes)) = some (some (.int .i64 0), 1, 8) := by kernel_rfl
-- the values' own types

end Go.Proofs.YtjhmocngcnnfdaaDoor.PFnExactLeastSameDigits

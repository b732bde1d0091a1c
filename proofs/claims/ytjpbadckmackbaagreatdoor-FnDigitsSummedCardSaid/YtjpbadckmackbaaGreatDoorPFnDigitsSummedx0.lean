-- Laid by this session's program gprint.py over the kit's print.
import Derived.Test.YtjpbadckmackbaaGreatDoorFn
import Derived.Test.YtjpbadckmackbaaGreatDoorProg
import Derived.Below
import Derived.Deep.Draws
import Derived.Deep.AppendLies
import Derived.Maps.AppendAt
import Derived.OwnWalk
import Derived.Laws.BytesArg
import Derived.Laws.MakeOwn
import Derived.Laws.OwnMore
import Derived.Deep.OwnRows
import Derived.Tactics
import Derived.Lib.ConvBytes
import Derived.Laws.Slices
import Derived.WalkKit
import Derived.KernelRfl
import Derived.RowKit3
import Derived.Deep.LoopGhost
import Derived.Deep.QuietTactic
import Derived.BigQuiet
import Derived.WideLaws
import Derived.Deep.DeepCutAuto
import Derived.Deep.CutBlock
import Derived.Deep.RegionHeld3
import Derived.Laws.Rows
import Derived.Lib.AppendStr
import Derived.ArgAppend
import Derived.Laws.IdiomCopy
import Derived.OrdersHeld
import Derived.Laws.BitsLemmas
import Derived.RowKit
import Derived.Test.YtjpbadckmackbaaGreatDoorItoa
import Derived.Test.YtjpbadckmackbaaGreatDoorRepeat
import Derived.Test.YtjpbadckmackbaaGreatDoorBytes
import Derived.Lib.OthersKept
import Derived.Laws.Runes
import Derived.Test.YtjpbadckmackbaaGreatDoorWWords
import Derived.Test.YtjpbadckmackbaaGreatDoorWLast
import Derived.Test.YtjpbadckmackbaaGreatDoorWTab
import Derived.Test.YtjpbadckmackbaaGreatDoorWFour
import Derived.Test.YtjpbadckmackbaaGreatDoorWQPut
import Derived.Test.YtjpbadckmackbaaGreatDoorWApart
import Derived.Test.YtjpbadckmackbaaGreatDoorWArr
import Derived.Test.YtjpbadckmackbaaGreatDoorWZeros
import Derived.Test.YtjpbadckmackbaaGreatDoorWFoot
import Derived.Test.YtjpbadckmackbaaGreatDoorWKept
import Derived.Test.YtjpbadckmackbaaGreatDoorWShare
import Derived.Test.YtjpbadckmackbaaGreatDoorWN
import Derived.Test.YtjpbadckmackbaaGreatDoorWFootNe
import Derived.Test.YtjpbadckmackbaaGreatDoorWAt
import Derived.Test.YtjpbadckmackbaaGreatDoorWEqStruct
import Derived.Test.YtjpbadckmackbaaGreatDoorWRepsOne
import Derived.Test.YtjpbadckmackbaaGreatDoorWInv
import Derived.Test.YtjpbadckmackbaaGreatDoorWInvWords
import Derived.Test.YtjpbadckmackbaaGreatDoorWGuard
import Derived.Test.YtjpbadckmackbaaGreatDoorWNEv
import Derived.Test.YtjpbadckmackbaaGreatDoorWMore
namespace Go.Proofs.YtjpbadckmackbaaGreatDoor.PFnDigitsSummed
open Go.RowKit Go.Proofs.YtjpbadckmackbaaGreatDoorW.PrintWords Go.Proofs.YtjpbadckmackbaaGreatDoorW.PrintLast Go.Proofs.YtjpbadckmackbaaGreatDoorW.PrintMore
attribute [local go_sem] max2_int min2_int max_two min_two max_three min_three max_four min_four   -- for this text's walks alone
set_option linter.unusedVariables false
set_option linter.unusedSimpArgs false



def errW : Option Int → Value
 | none => .nilIface
 | some c => .iface 0 (.int .i64 c)
theorem errW_none : errW none = .nilIface := rfl
theorem errW_some (c : Int) : errW (some c) = .iface 0 (.int .i64 c) := rfl

theorem dead_ {r : Bool} {x : Option Bool} {P : Prop} (e : x = some false) (H : x = some r) (h : Aside0 (r = true)) : P := Bool.noConfusion ((Option.some.inj (e.symm.trans H)).trans h.out)
theorem none_ {α : Type} {r : α} {x : Option α} {P : Prop} (e : x = none) (H : x = some r) : P := by rw [e] at H; cases H
theorem lit_size_ (a : Array UInt8) : (⟨a⟩ : ByteArray).size = a.size := rfl
theorem info3 : (Tryz.prog.info? 3).map (fun i => (i.zero, i.size, i.bytes)) = some (some (.int .i64 0), 1, 8) := by kernel_rfl
theorem info5 : (Tryz.prog.info? 5).map (fun i => (i.zero, i.size, i.bytes)) = some (some (.int .u8 0), 1, 1) := by kernel_rfl
-- the values' own types

end Go.Proofs.YtjpbadckmackbaaGreatDoor.PFnDigitsSummed

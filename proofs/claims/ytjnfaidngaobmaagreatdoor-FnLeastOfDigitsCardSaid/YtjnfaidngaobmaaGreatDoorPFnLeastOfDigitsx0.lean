-- Laid by this session's program gprint.py over the kit's print.
import Derived.Test.YtjnfaidngaobmaaGreatDoorZip
import Derived.Test.YtjnfaidngaobmaaGreatDoorFn
import Derived.Test.YtjnfaidngaobmaaGreatDoorProg
import Derived.Below
import Derived.Deep.Draws
import Derived.Deep.AppendLies
import Derived.Maps.AppendAt
import Derived.OwnWalk
import Derived.Laws.BytesArg
import Derived.Laws.MakeOwn
import Derived.Laws.OwnMore
import Derived.Deep.OwnRows
import Derived.Tactics
import Derived.Lib.ConvBytes
import Derived.Laws.Slices
import Derived.WalkKit
import Derived.KernelRfl
import Derived.RowKit3
import Derived.Deep.LoopGhost
import Derived.Deep.QuietTactic
import Derived.BigQuiet
import Derived.WideLaws
import Derived.Deep.DeepCutAuto
import Derived.Deep.CutBlock
import Derived.Deep.RegionHeld3
import Derived.Laws.Rows
import Derived.Lib.AppendStr
import Derived.ArgAppend
import Derived.Laws.IdiomCopy
import Derived.OrdersHeld
import Derived.Laws.BitsLemmas
import Derived.RowKit
import Derived.Test.YtjnfaidngaobmaaGreatDoorItoa
import Derived.Test.YtjnfaidngaobmaaGreatDoorBytes
import Derived.Test.YtjnfaidngaobmaaGreatDoorSortB
import Derived.Test.YtjnfaidngaobmaaGreatDoorBytesZ
import Derived.Test.YtjnfaidngaobmaaGreatDoorRevB
import Derived.Test.YtjnfaidngaobmaaGreatDoorRevC
import Derived.Test.YtjnfaidngaobmaaGreatDoorWWords
import Derived.Test.YtjnfaidngaobmaaGreatDoorWLast
import Derived.Test.YtjnfaidngaobmaaGreatDoorWTab
import Derived.Test.YtjnfaidngaobmaaGreatDoorWFour
import Derived.Test.YtjnfaidngaobmaaGreatDoorWQPut
import Derived.Test.YtjnfaidngaobmaaGreatDoorWApart
import Derived.Test.YtjnfaidngaobmaaGreatDoorWArr
import Derived.Test.YtjnfaidngaobmaaGreatDoorWZeros
import Derived.Test.YtjnfaidngaobmaaGreatDoorWFoot
import Derived.Test.YtjnfaidngaobmaaGreatDoorWKept
import Derived.Test.YtjnfaidngaobmaaGreatDoorWShare
import Derived.Test.YtjnfaidngaobmaaGreatDoorWN
import Derived.Test.YtjnfaidngaobmaaGreatDoorWFootNe
import Derived.Test.YtjnfaidngaobmaaGreatDoorWAt
import Derived.Test.YtjnfaidngaobmaaGreatDoorWEqStruct
import Derived.Test.YtjnfaidngaobmaaGreatDoorWRepsOne
import Derived.Test.YtjnfaidngaobmaaGreatDoorWInv
import Derived.Test.YtjnfaidngaobmaaGreatDoorWInvWords
import Derived.Test.YtjnfaidngaobmaaGreatDoorWGuard
import Derived.Test.YtjnfaidngaobmaaGreatDoorWNEv
import Derived.Test.YtjnfaidngaobmaaGreatDoorWMore
namespace Go.Proofs.YtjnfaidngaobmaaGreatDoor.PFnLeastOfDigits
open Go.RowKit Go.Proofs.YtjnfaidngaobmaaGreatDoorW.PrintWords Go.Proofs.YtjnfaidngaobmaaGreatDoorW.PrintLast Go.Proofs.YtjnfaidngaobmaaGreatDoorW.PrintMore
attribute [local go_sem] max2_int min2_int max_two min_two max_three min_three max_four min_four   -- for this text's walks alone
set_option linter.unusedVariables false
set_option linter.unusedSimpArgs false



def errW : Option Int → Value
 | none => .nilIface
 | some c => .iface 0 (.int .i64 c)
theorem errW_none : errW none = .nilIface := rfl
theorem errW_some (c : Int) : errW (some c) = .iface 0 (.int .i64 c) := rfl

theorem dead_ {r : Bool} {x : Option Bool} {P : Prop} (e : x = some false) (H : x = some r) (h : Aside0 (r = true)) : P := Bool.noConfusion ((Option.some.inj (e.symm.trans H)).trans h.out)
theorem none_ {α : Type} {r : α} {x : Option α} {P : Prop} (e : x = none) (H : x = some r) : P := by rw [e] at H; cases H
theorem lit_size_ (a : Array UInt8) : (⟨a⟩ : ByteArray).size = a.size := rfl
theorem info3 : (Tryz.prog.info? 3).map (fun i => (i.zero, i.size, i.bytes)) = some (some (.int .i64 0), 1, 8) := by kernel_rfl
theorem info4 : (Tryz.prog.info? 4).map (fun i => (i.zero, i.size, i.bytes)) = some (some (.bool false), 1, 1) := by kernel_rfl
theorem info5 : (Tryz.prog.info? 5).map (fun i => (i.zero, i.size, i.bytes)) = some (some (.int .u8 0), 1, 1) := by kernel_rfl
theorem info9 : (Tryz.prog.info? 9).map (fun i => (i.zero, i.size, i.bytes)) = some (some (.string ⟨#[]⟩), 1, 16) := by kernel_rfl
theorem info73 : (Tryz.prog.info? 73).map (fun i => (i.zero, i.size, i.bytes)) = some (some (.agg #[(.int .i64 0), (.int .i64 0), (.int .u8 0)]), 3, 24) := by kernel_rfl
-- the values' own types
def rd_L2 (xs : List (List Int)) (i : Int) : (List Int) := xs.getD i.toNat ([] : List Int)
theorem at_L2 {w : World} {A : Option Addr} {n : Nat} {xs : List (List Int)} (h : Kd.C (Kd.slice 5 (Kd.int .u8)) w A n xs) (i : Int) (h0 : 0 ≤ i) (h1 : i < n) : ∃ ad A0 c0, A = some ad ∧ w.cell? (ad.add i.toNat) = some (.slice A0 (rd_L2 xs i).length c0) ∧ (rd_L2 xs i).length ≤ c0 ∧ (Kd.int .u8).C w A0 (rd_L2 xs i).length (rd_L2 xs i) := by
 obtain ⟨ad, c, e, _, hK, hc0⟩ := Kd.C_get h ([] : List Int) i h0 h1
 have hc : ∀ j u, c[j]? = some u → w.cell? (ad.add (i.toNat * 1 + j)) = some u := hc0
 obtain ⟨A0, c0, rfl, l0, g0⟩ := hK
 exact ⟨ad, A0, c0, e, by have hq := hc 0 _ rfl; rwa [Nat.mul_one, Nat.add_zero] at hq, l0, g0⟩

end Go.Proofs.YtjnfaidngaobmaaGreatDoor.PFnLeastOfDigits

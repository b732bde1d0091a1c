-- Laid by this session's program gprint.py over the kit's print.
import Derived.Lib.OthersKept
import Derived.Laws.Runes
import Derived.Test.YtjnfaidngaobmaaGreatDoorPFnLeastOfDigitsx0
import Derived.Test.YtjnfaidngaobmaaGreatDoorPFnLeastOfDigitsx1
import Derived.Test.YtjnfaidngaobmaaGreatDoorPFnLeastOfDigitsx2
import Derived.Test.YtjnfaidngaobmaaGreatDoorPFnLeastOfDigitsx4
import Derived.Test.YtjnfaidngaobmaaGreatDoorPFnLeastOfDigitsx5
import Derived.Test.YtjnfaidngaobmaaGreatDoorPFnLeastOfDigitsx6
import Derived.Test.YtjnfaidngaobmaaGreatDoorPFnLeastOfDigitsx7
import Derived.Test.YtjnfaidngaobmaaGreatDoorPFnLeastOfDigitsx8
import Derived.Test.YtjnfaidngaobmaaGreatDoorPFnLeastOfDigitsx10
import Derived.Test.YtjnfaidngaobmaaGreatDoorPFnLeastOfDigitsx11
namespace Go.Proofs.YtjnfaidngaobmaaGreatDoor.PFnLeastOfDigits
open Go.RowKit Go.Proofs.YtjnfaidngaobmaaGreatDoorW.PrintWords Go.Proofs.YtjnfaidngaobmaaGreatDoorW.PrintLast Go.Proofs.YtjnfaidngaobmaaGreatDoorW.PrintMore
attribute [local go_sem] max2_int min2_int max_two min_two max_three min_three max_four min_four   -- for this text's walks alone
set_option linter.unusedVariables false
set_option linter.unusedSimpArgs false
theorem undef_bool_ {b : Bool} (h : some undef = some (Value.bool b)) : False := by cases h
theorem dead2_ {r : Bool} {P : Prop} (H : some false = some r) (h : Aside0 (r = true)) : P := Bool.noConfusion ((Option.some.inj H).trans h.out)
theorem z12_0_ {p : Prop} (h : p := by repeat (first | (with_reducible first | exact HB.out | apply below_alloc | apply pw_below_drewN | apply below_drew1) | exact HB.out)) : p := h
theorem z12_1_ {p : Prop} (h : p := by first | rfl | (simp; done) | (simp [*]; done)) : p := h
theorem z12_2_ {p : Prop} (h : p := by first | (with_reducible assumption) | assumption) : p := h

/-! ### laws_FnLeastOfDigits: function 3 -/
theorem ilt_ {h : Array Obj} {k : Nat} {o : Obj} (e : h[k]? = some o) : k < h.size := (Array.getElem?_eq_some_iff.1 e).1
theorem byte_ (s : ByteArray) (i : Nat) (h : i < s.size) : bt s (i : Int) = ((s[i]'h).toNat : Int) := by
  unfold bt
  rw [dif_pos (by rw [Int.toNat_natCast]; exact h)]
  simp only [Int.toNat_natCast]
theorem wrapn_ (n : Nat) (h : n < 4611686018427387904) : wrap64 ((n : Int) + 1) = ((n + 1 : Nat) : Int) := by simp [wrap64]; omega
mutual
def laws_FnLeastOfDigits.j0 : Nat → List Int → Int → Int → Bool → Int → Bool → Int → Bool → Int → Int → Int → Bool → Option (Bool)
 | 0, _, _, _, _, _, _, _, _, _, _, _, _ => none
 | k + 1, x1, x5, x6, x7, x10, x11, x14, x15, x18, x22, x26, x228 => if x228 = true then (some false) else (if x15 = true then (if x14 > x5 then (some false) else (if x18 < x5 then (some false) else ((laws_iDigits.f k x14).bind fun t437 => ((laws_iDigits.f k x5).bind fun t438 => (if t437 = t438 then ((laws_iDigits.f k x18).bind fun t439 => ((laws_iDigits.f k x5).bind fun t440 => (if t439 = t440 then (if (x7 != (decide (x5 < x18))) = true then (some false) else (if (x11 != (decide (x5 > x14))) = true then (some false) else (if x22 < 0 then (some false) else (if ((x26 == 0) != (decide (x5 < 10))) = true then (some false) else (if x5 ≥ 10 then ((impl_ProductSteps.f k x22).bind fun bt441 => (if bt441.2 = true then (if bt441.1 = (wrap64 (x26 - 1)) then (laws_FnLeastOfDigits.j1 k x1 x5 x6 x7 x10 x11) else (some false)) else (some false))) else (laws_FnLeastOfDigits.j1 k x1 x5 x6 x7 x10 x11)))))) else (some false)))) else (some false)))))) else (laws_FnLeastOfDigits.j1 k x1 x5 x6 x7 x10 x11))
def laws_FnLeastOfDigits.j1 : Nat → List Int → Int → Int → Bool → Int → Bool → Option (Bool)
 | 0, _, _, _, _, _, _ => none
 | k + 1, x1, x5, x6, x7, x10, x11 => if x7 = true then ((impl_LastSameDigits.f k x6).bind fun bt443 => (if x6 ≤ x5 then (some false) else ((laws_iDigits.f k x6).bind fun t447 => ((laws_iDigits.f k x5).bind fun t448 => (if t447 = t448 then (if bt443.2 = true then (if bt443.1 = x5 then (laws_FnLeastOfDigits.j2 k x1 x5 x10 x11) else (some false)) else (some false)) else (some false)))))) else (laws_FnLeastOfDigits.j2 k x1 x5 x10 x11)
def laws_FnLeastOfDigits.j2 : Nat → List Int → Int → Int → Bool → Option (Bool)
 | 0, _, _, _, _ => none
 | k + 1, x1, x5, x10, x11 => if x11 = true then ((impl_NextSameDigits.f k x10).bind fun bt449 => (if x10 ≥ x5 then (some false) else ((laws_iDigits.f k x10).bind fun t453 => ((laws_iDigits.f k x5).bind fun t454 => (if t453 = t454 then (if bt449.2 = true then (if bt449.1 = x5 then (laws_FnLeastOfDigits.j3 k x1) else (some false)) else (some false)) else (some false)))))) else (laws_FnLeastOfDigits.j3 k x1)
def laws_FnLeastOfDigits.j3 : Nat → List Int → Option (Bool)
 | 0, _ => none
 | k + 1, x1 => (spec_DrawLeastWithProduct.f k x1).bind fun t455 => ((impl_LeastWithProduct.f k t455).bind fun bt456 => ((spec_LeastWithProduct.f k t455).bind fun bt458 => ((spec_DrawLeastMultiple.f x1).bind fun bt460 => ((impl_LeastMultiple.f k bt460.1 bt460.2).bind fun bt462 => ((spec_LeastMultiple.f k bt460.1 bt460.2).bind fun bt464 => ((spec_DrawDigitsForMultiple.f x1).bind fun t466 => ((impl_DigitsForMultiple.f k t466).bind fun bt467 => ((spec_DigitsForMultiple.f k t466).bind fun bt469 => ((impl_OnesFor.f k t466).bind fun bt471 => ((spec_OnesFor.f k t466).bind fun bt473 => ((spec_DrawRestOfOnes.f x1).bind fun bt475 => ((impl_RestOfOnes.f k bt475.1 bt475.2).bind fun bt477 => ((spec_RestOfOnes.f k bt475.1 bt475.2).bind fun bt479 => (if (bt456.2 != bt458.2) = true then (laws_FnLeastOfDigits.j4 k t455 bt456.1 bt456.2 bt460.1 bt460.2 bt462.1 bt462.2 t466 bt467.1 bt467.2 bt471.1 bt471.2 bt475.1 bt475.2 bt477.1 bt477.2 true) else (if bt456.1 = bt458.1 then (if (bt462.2 != bt464.2) = true then (laws_FnLeastOfDigits.j4 k t455 bt456.1 bt456.2 bt460.1 bt460.2 bt462.1 bt462.2 t466 bt467.1 bt467.2 bt471.1 bt471.2 bt475.1 bt475.2 bt477.1 bt477.2 true) else (if bt462.1.toList = bt464.1.toList then (if (bt467.2 != bt469.2) = true then (laws_FnLeastOfDigits.j4 k t455 bt456.1 bt456.2 bt460.1 bt460.2 bt462.1 bt462.2 t466 bt467.1 bt467.2 bt471.1 bt471.2 bt475.1 bt475.2 bt477.1 bt477.2 true) else (if bt467.1.toList = bt469.1.toList then (if (bt471.2 != bt473.2) = true then (laws_FnLeastOfDigits.j4 k t455 bt456.1 bt456.2 bt460.1 bt460.2 bt462.1 bt462.2 t466 bt467.1 bt467.2 bt471.1 bt471.2 bt475.1 bt475.2 bt477.1 bt477.2 true) else (if bt471.1 = bt473.1 then (if (bt477.2 != bt479.2) = true then (laws_FnLeastOfDigits.j4 k t455 bt456.1 bt456.2 bt460.1 bt460.2 bt462.1 bt462.2 t466 bt467.1 bt467.2 bt471.1 bt471.2 bt475.1 bt475.2 bt477.1 bt477.2 true) else (if bt477.1 = bt479.1 then (if bt471.2 = true then (laws_FnLeastOfDigits.j4 k t455 bt456.1 bt456.2 bt460.1 bt460.2 bt462.1 bt462.2 t466 bt467.1 bt467.2 bt471.1 bt471.2 bt475.1 bt475.2 bt477.1 bt477.2 (!bt467.2)) else (laws_FnLeastOfDigits.j4 k t455 bt456.1 bt456.2 bt460.1 bt460.2 bt462.1 bt462.2 t466 bt467.1 bt467.2 bt471.1 bt471.2 bt475.1 bt475.2 bt477.1 bt477.2 false)) else (laws_FnLeastOfDigits.j4 k t455 bt456.1 bt456.2 bt460.1 bt460.2 bt462.1 bt462.2 t466 bt467.1 bt467.2 bt471.1 bt471.2 bt475.1 bt475.2 bt477.1 bt477.2 true))) else (laws_FnLeastOfDigits.j4 k t455 bt456.1 bt456.2 bt460.1 bt460.2 bt462.1 bt462.2 t466 bt467.1 bt467.2 bt471.1 bt471.2 bt475.1 bt475.2 bt477.1 bt477.2 true))) else (laws_FnLeastOfDigits.j4 k t455 bt456.1 bt456.2 bt460.1 bt460.2 bt462.1 bt462.2 t466 bt467.1 bt467.2 bt471.1 bt471.2 bt475.1 bt475.2 bt477.1 bt477.2 true))) else (laws_FnLeastOfDigits.j4 k t455 bt456.1 bt456.2 bt460.1 bt460.2 bt462.1 bt462.2 t466 bt467.1 bt467.2 bt471.1 bt471.2 bt475.1 bt475.2 bt477.1 bt477.2 true))) else (laws_FnLeastOfDigits.j4 k t455 bt456.1 bt456.2 bt460.1 bt460.2 bt462.1 bt462.2 t466 bt467.1 bt467.2 bt471.1 bt471.2 bt475.1 bt475.2 bt477.1 bt477.2 true))))))))))))))))
def laws_FnLeastOfDigits.j4 : Nat → Int → Int → Bool → Int → ByteArray → ByteArray → Bool → Int → ByteArray → Bool → Int → Bool → Int → Int → Int → Bool → Bool → Option (Bool)
 | 0, _, _, _, _, _, _, _, _, _, _, _, _, _, _, _, _, _ => none
 | k + 1, x36, x37, x38, x41, x42, x43, x44, x47, x48, x49, x52, x53, x56, x57, x58, x59, x464 => if x464 = true then (some false) else (if x38 = true then ((impl_ProductOfDigits.f k x37).bind fun bt481 => (if x37 < 1 then (some false) else (if bt481.2 = true then (if bt481.1 = x36 then (laws_FnLeastOfDigits.j5 k x41 x42 x43 x44 x47 x48 x49 x52 x53 x56 x57 x58 x59) else (some false)) else (some false)))) else (laws_FnLeastOfDigits.j5 k x41 x42 x43 x44 x47 x48 x49 x52 x53 x56 x57 x58 x59))
def laws_FnLeastOfDigits.j5 : Nat → Int → ByteArray → ByteArray → Bool → Int → ByteArray → Bool → Int → Bool → Int → Int → Int → Bool → Option (Bool)
 | 0, _, _, _, _, _, _, _, _, _, _, _, _, _ => none
 | k + 1, x41, x42, x43, x44, x47, x48, x49, x52, x53, x56, x57, x58, x59 => if x44 = true then (laws_FnLeastOfDigits.l0 k x41 x42 x43 x47 x48 x49 x52 x53 x56 x57 x58 x59 0 x43 0) else (laws_FnLeastOfDigits.j8 k x47 x48 x49 x52 x53 x56 x57 x58 x59)
def laws_FnLeastOfDigits.j8 : Nat → Int → ByteArray → Bool → Int → Bool → Int → Int → Int → Bool → Option (Bool)
 | 0, _, _, _, _, _, _, _, _, _ => none
 | k + 1, x47, x48, x49, x52, x53, x56, x57, x58, x59 => if x49 = true then ((impl_LeastMultiple.f k x47 x48).bind fun bt483 => (if (x48.size : Int) < 1 then (some false) else (if (x48.size : Int) > 2 then (some false) else (if bt483.2 = true then (if (Int.tmod x47 2) = 0 then (if (x53 != false) = true then (some false) else (if x53 = true then (if x48.toList = ([49] : List UInt8) then (laws_FnLeastOfDigits.j9 k x47 x52 x53 x56 x57 x58 x59) else (some false)) else (laws_FnLeastOfDigits.j9 k x47 x52 x53 x56 x57 x58 x59))) else (if (x53 != ((Int.tmod x47 5) != 0)) = true then (some false) else (if x53 = true then (if x48.toList = ([49] : List UInt8) then (laws_FnLeastOfDigits.j9 k x47 x52 x53 x56 x57 x58 x59) else (some false)) else (laws_FnLeastOfDigits.j9 k x47 x52 x53 x56 x57 x58 x59)))) else (some false))))) else (laws_FnLeastOfDigits.j9 k x47 x52 x53 x56 x57 x58 x59)
def laws_FnLeastOfDigits.j9 : Nat → Int → Int → Bool → Int → Int → Int → Bool → Option (Bool)
 | 0, _, _, _, _, _, _, _ => none
 | k + 1, x47, x52, x53, x56, x57, x58, x59 => if x53 = true then ((impl_RestOfOnes.f k x47 x52).bind fun bt485 => (if x52 < 1 then (some false) else (if x52 > x47 then (some false) else (if bt485.2 = true then (if bt485.1 = 0 then (laws_FnLeastOfDigits.l2 k x47 x52 x56 x57 x58 x59 1) else (some false)) else (some false))))) else (if x59 = true then (if x57 < 1000000000000 then ((impl_RestOfOnes.f k x56 (wrap64 (x57 + 1))).bind fun bt493 => (if x58 < 0 then (some false) else (if x58 ≥ x56 then (some false) else (if bt493.2 = true then (if x56 = 0 then (none) else (if bt493.1 = (Int.tmod (wrap64 ((wrap64 (10 * x58)) + 1)) x56) then (some true) else (some false))) else (some false))))) else (some true)) else (some true))
def laws_FnLeastOfDigits.l2 : Nat → Int → Int → Int → Int → Int → Bool → Int → Option (Bool)
 | 0, _, _, _, _, _, _, _ => none
 | k + 1, x47, x52, x56, x57, x58, x59, x72 => if x72 < x52 then (if x72 < 12 then ((impl_RestOfOnes.f k x47 x72).bind fun bt487 => (if bt487.2 = true then (if bt487.1 = 0 then (some false) else (laws_FnLeastOfDigits.l2 k x47 x52 x56 x57 x58 x59 (wrap64 (x72 + 1)))) else (some false))) else (if x59 = true then (if x57 < 1000000000000 then ((impl_RestOfOnes.f k x56 (wrap64 (x57 + 1))).bind fun bt489 => (if x58 < 0 then (some false) else (if x58 ≥ x56 then (some false) else (if bt489.2 = true then (if x56 = 0 then (none) else (if bt489.1 = (Int.tmod (wrap64 ((wrap64 (10 * x58)) + 1)) x56) then (some true) else (some false))) else (some false))))) else (some true)) else (some true))) else (if x59 = true then (if x57 < 1000000000000 then ((impl_RestOfOnes.f k x56 (wrap64 (x57 + 1))).bind fun bt491 => (if x58 < 0 then (some false) else (if x58 ≥ x56 then (some false) else (if bt491.2 = true then (if x56 = 0 then (none) else (if bt491.1 = (Int.tmod (wrap64 ((wrap64 (10 * x58)) + 1)) x56) then (some true) else (some false))) else (some false))))) else (some true)) else (some true))
def laws_FnLeastOfDigits.l0 : Nat → Int → ByteArray → ByteArray → Int → ByteArray → Bool → Int → Bool → Int → Int → Int → Bool → Int → ByteArray → Int → Option (Bool)
 | 0, _, _, _, _, _, _, _, _, _, _, _, _, _, _, _ => none
 | k + 1, x41, x42, x43, x47, x48, x49, x52, x53, x56, x57, x58, x59, x64, x483, x484 => if x484 < (x483.size : Int) then (if bt x483 x484 < 128 ∧ x484 < 4611686018427387904 then (laws_FnLeastOfDigits.l1 k x41 x42 x43 x47 x48 x49 x52 x53 x56 x57 x58 x59 x64 x484 false x483 x484 x42 0) else (none)) else (if (x43.size : Int) < 1 then (some false) else (if 0 < (x43.size : Int) then (if (bt x43 0) = 48 then (some false) else (if x64 = 0 then (if (x43.size : Int) > x41 then (some false) else (laws_FnLeastOfDigits.j8 k x47 x48 x49 x52 x53 x56 x57 x58 x59)) else (some false))) else (none)))
def laws_FnLeastOfDigits.l1 : Nat → Int → ByteArray → ByteArray → Int → ByteArray → Bool → Int → Bool → Int → Int → Int → Bool → Int → Int → Bool → ByteArray → Int → ByteArray → Int → Option (Bool)
 | 0, _, _, _, _, _, _, _, _, _, _, _, _, _, _, _, _, _, _, _ => none
 | k + 1, x41, x42, x43, x47, x48, x49, x52, x53, x56, x57, x58, x59, x64, x65, x66, x483, x484, x488, x489 => if x489 < (x488.size : Int) then (if bt x488 x489 < 128 ∧ x489 < 4611686018427387904 then (if x66 = true then (laws_FnLeastOfDigits.l1 k x41 x42 x43 x47 x48 x49 x52 x53 x56 x57 x58 x59 x64 x65 true x483 x484 x488 (wrap64 (x489 + 1))) else (if 0 ≤ x489 then (if x489 < (x42.size : Int) then (if 0 ≤ x65 then (if x65 < (x43.size : Int) then (laws_FnLeastOfDigits.l1 k x41 x42 x43 x47 x48 x49 x52 x53 x56 x57 x58 x59 x64 x65 ((bt x42 x489) == (bt x43 x65)) x483 x484 x488 (wrap64 (x489 + 1))) else (none)) else (none)) else (none)) else (none))) else (none)) else (if x66 = true then (if 0 ≤ x65 then (if x65 < (x43.size : Int) then (if x41 = 0 then (none) else (laws_FnLeastOfDigits.l0 k x41 x42 x43 x47 x48 x49 x52 x53 x56 x57 x58 x59 (Int.tmod (wrap64 ((wrap64 (10 * x64)) + (((bt x43 x65) - 48) % 256))) x41) x483 (wrap64 (x484 + 1)))) else (none)) else (none)) else (some false))
end
def laws_FnLeastOfDigits.f (k : Nat) (l0 : List Int) (l1 : List Int) : Option (Bool) := (laws_big.f l0 l1).bind fun t407 => (if t407 = true then (some true) else ((spec_DrawNextSameDigits.f l0).bind fun t408 => ((impl_NextSameDigits.f k t408).bind fun bt409 => ((spec_NextSameDigits.f k t408).bind fun bt411 => ((impl_LastSameDigits.f k t408).bind fun bt413 => ((spec_LastSameDigits.f k t408).bind fun bt415 => ((impl_LeastSameDigits.f k t408).bind fun bt417 => ((spec_LeastSameDigits.f k t408).bind fun bt419 => ((impl_GreatestSameDigits.f k t408).bind fun bt421 => ((spec_GreatestSameDigits.f k t408).bind fun bt423 => ((impl_ProductOfDigits.f k t408).bind fun bt425 => ((spec_ProductOfDigits.f k t408).bind fun bt427 => ((impl_ProductSteps.f k t408).bind fun bt429 => ((spec_ProductSteps.f k t408).bind fun bt431 => (if (bt409.2 != bt411.2) = true then (laws_FnLeastOfDigits.j0 k l1 t408 bt409.1 bt409.2 bt413.1 bt413.2 bt417.1 bt417.2 bt421.1 bt425.1 bt429.1 true) else (if bt409.1 = bt411.1 then (if (bt413.2 != bt415.2) = true then (laws_FnLeastOfDigits.j0 k l1 t408 bt409.1 bt409.2 bt413.1 bt413.2 bt417.1 bt417.2 bt421.1 bt425.1 bt429.1 true) else (if bt413.1 = bt415.1 then (if (bt417.2 != bt419.2) = true then (laws_FnLeastOfDigits.j0 k l1 t408 bt409.1 bt409.2 bt413.1 bt413.2 bt417.1 bt417.2 bt421.1 bt425.1 bt429.1 true) else (if bt417.1 = bt419.1 then (if (bt421.2 != bt423.2) = true then (laws_FnLeastOfDigits.j0 k l1 t408 bt409.1 bt409.2 bt413.1 bt413.2 bt417.1 bt417.2 bt421.1 bt425.1 bt429.1 true) else (if bt421.1 = bt423.1 then (if (bt425.2 != bt427.2) = true then (laws_FnLeastOfDigits.j0 k l1 t408 bt409.1 bt409.2 bt413.1 bt413.2 bt417.1 bt417.2 bt421.1 bt425.1 bt429.1 true) else (if bt425.1 = bt427.1 then (if (bt429.2 != bt431.2) = true then (laws_FnLeastOfDigits.j0 k l1 t408 bt409.1 bt409.2 bt413.1 bt413.2 bt417.1 bt417.2 bt421.1 bt425.1 bt429.1 true) else (if bt429.1 = bt431.1 then (if bt409.2 = true then (if bt417.2 = true then (if bt413.2 = true then (if (bt421.2 != bt417.2) = true then (laws_FnLeastOfDigits.j0 k l1 t408 bt409.1 bt409.2 bt413.1 bt413.2 bt417.1 bt417.2 bt421.1 bt425.1 bt429.1 true) else (if (bt425.2 != bt417.2) = true then (laws_FnLeastOfDigits.j0 k l1 t408 bt409.1 bt409.2 bt413.1 bt413.2 bt417.1 bt417.2 bt421.1 bt425.1 bt429.1 true) else (laws_FnLeastOfDigits.j0 k l1 t408 bt409.1 bt409.2 bt413.1 bt413.2 bt417.1 bt417.2 bt421.1 bt425.1 bt429.1 (bt429.2 != bt417.2)))) else (if (bt421.2 != bt417.2) = true then (laws_FnLeastOfDigits.j0 k l1 t408 bt409.1 bt409.2 bt413.1 bt413.2 bt417.1 bt417.2 bt421.1 bt425.1 bt429.1 true) else (if (bt425.2 != bt417.2) = true then (laws_FnLeastOfDigits.j0 k l1 t408 bt409.1 bt409.2 bt413.1 bt413.2 bt417.1 bt417.2 bt421.1 bt425.1 bt429.1 true) else (laws_FnLeastOfDigits.j0 k l1 t408 bt409.1 bt409.2 bt413.1 bt413.2 bt417.1 bt417.2 bt421.1 bt425.1 bt429.1 (bt429.2 != bt417.2))))) else (laws_FnLeastOfDigits.j0 k l1 t408 bt409.1 bt409.2 bt413.1 bt413.2 bt417.1 bt417.2 bt421.1 bt425.1 bt429.1 true)) else (if bt413.2 = true then (if bt417.2 = true then (if (bt421.2 != bt417.2) = true then (laws_FnLeastOfDigits.j0 k l1 t408 bt409.1 bt409.2 bt413.1 bt413.2 bt417.1 bt417.2 bt421.1 bt425.1 bt429.1 true) else (if (bt425.2 != bt417.2) = true then (laws_FnLeastOfDigits.j0 k l1 t408 bt409.1 bt409.2 bt413.1 bt413.2 bt417.1 bt417.2 bt421.1 bt425.1 bt429.1 true) else (laws_FnLeastOfDigits.j0 k l1 t408 bt409.1 bt409.2 bt413.1 bt413.2 bt417.1 bt417.2 bt421.1 bt425.1 bt429.1 (bt429.2 != bt417.2)))) else (laws_FnLeastOfDigits.j0 k l1 t408 bt409.1 bt409.2 bt413.1 bt413.2 bt417.1 bt417.2 bt421.1 bt425.1 bt429.1 true)) else (if (bt421.2 != bt417.2) = true then (laws_FnLeastOfDigits.j0 k l1 t408 bt409.1 bt409.2 bt413.1 bt413.2 bt417.1 bt417.2 bt421.1 bt425.1 bt429.1 true) else (if (bt425.2 != bt417.2) = true then (laws_FnLeastOfDigits.j0 k l1 t408 bt409.1 bt409.2 bt413.1 bt413.2 bt417.1 bt417.2 bt421.1 bt425.1 bt429.1 true) else (laws_FnLeastOfDigits.j0 k l1 t408 bt409.1 bt409.2 bt413.1 bt413.2 bt417.1 bt417.2 bt421.1 bt425.1 bt429.1 (bt429.2 != bt417.2)))))) else (laws_FnLeastOfDigits.j0 k l1 t408 bt409.1 bt409.2 bt413.1 bt413.2 bt417.1 bt417.2 bt421.1 bt425.1 bt429.1 true))) else (laws_FnLeastOfDigits.j0 k l1 t408 bt409.1 bt409.2 bt413.1 bt413.2 bt417.1 bt417.2 bt421.1 bt425.1 bt429.1 true))) else (laws_FnLeastOfDigits.j0 k l1 t408 bt409.1 bt409.2 bt413.1 bt413.2 bt417.1 bt417.2 bt421.1 bt425.1 bt429.1 true))) else (laws_FnLeastOfDigits.j0 k l1 t408 bt409.1 bt409.2 bt413.1 bt413.2 bt417.1 bt417.2 bt421.1 bt425.1 bt429.1 true))) else (laws_FnLeastOfDigits.j0 k l1 t408 bt409.1 bt409.2 bt413.1 bt413.2 bt417.1 bt417.2 bt421.1 bt425.1 bt429.1 true))) else (laws_FnLeastOfDigits.j0 k l1 t408 bt409.1 bt409.2 bt413.1 bt413.2 bt417.1 bt417.2 bt421.1 bt425.1 bt429.1 true)))))))))))))))))
theorem laws_FnLeastOfDigits.j0_dead {k : Nat} {x1 : List Int} {x5 : Int} {x6 : Int} {x7 : Bool} {x10 : Int} {x11 : Bool} {x14 : Int} {x15 : Bool} {x18 : Int} {x22 : Int} {x26 : Int} {r : Bool} {P : Prop} (H : laws_FnLeastOfDigits.j0 k x1 x5 x6 x7 x10 x11 x14 x15 x18 x22 x26 true = some r) (h : Aside0 (r = true)) : P := by
 cases k with
 | zero => exact none_ (by simp only [laws_FnLeastOfDigits.j0]) H
 | succ k => exact dead_ (by simp only [laws_FnLeastOfDigits.j0]; first | exact if_pos rfl | exact if_pos trivial) H h
theorem laws_FnLeastOfDigits.j4_dead {k : Nat} {x36 : Int} {x37 : Int} {x38 : Bool} {x41 : Int} {x42 : ByteArray} {x43 : ByteArray} {x44 : Bool} {x47 : Int} {x48 : ByteArray} {x49 : Bool} {x52 : Int} {x53 : Bool} {x56 : Int} {x57 : Int} {x58 : Int} {x59 : Bool} {r : Bool} {P : Prop} (H : laws_FnLeastOfDigits.j4 k x36 x37 x38 x41 x42 x43 x44 x47 x48 x49 x52 x53 x56 x57 x58 x59 true = some r) (h : Aside0 (r = true)) : P := by
 cases k with
 | zero => exact none_ (by simp only [laws_FnLeastOfDigits.j4]) H
 | succ k => exact dead_ (by simp only [laws_FnLeastOfDigits.j4]; first | exact if_pos rfl | exact if_pos trivial) H h
set_option maxHeartbeats 64000000 in
set_option maxRecDepth 100000 in
theorem laws_FnLeastOfDigits.calls (k : Nat) (A0 : Option Addr) (c0 : Nat) (l0 : List Int) (A1 : Option Addr) (c1 : Nat) (l1 : List Int) (r : Bool) (w : World) (hT : Shelf.TabOk w) (hr0 : Kd.C (Kd.int .u8) w A0 l0.length l0) (hc0 : l0.length ≤ c0) (hr1 : Kd.C (Kd.int .u8) w A1 l1.length l1) (hc1 : l1.length ≤ c1) (hr_ : Aside0 (r = true)) (h : laws_FnLeastOfDigits.f k l0 l1 = some r) :
 Calls Tryz.prog 3 #[.slice A0 l0.length c0, .slice A1 l1.length c1] w fun e w' => e = .returned (.bool r) ∧ Below w.heap.size w w' := by
 have HR0 := Aside0.mk hr0
 have HC0 := Aside0.mk hc0
 clear hr0 hc0
 have HR1 := Aside0.mk hr1
 have HC1 := Aside0.mk hc1
 clear hr1 hc1
 have HT := Aside0.mk hT
 clear hT
 have HB := Aside0.mk (Below.refl w.heap.size w)
 have H : ((laws_big.f l0 l1).bind fun t407 => (if t407 = true then (some true) else ((spec_DrawNextSameDigits.f l0).bind fun t408 => ((impl_NextSameDigits.f k t408).bind fun bt409 => ((spec_NextSameDigits.f k t408).bind fun bt411 => ((impl_LastSameDigits.f k t408).bind fun bt413 => ((spec_LastSameDigits.f k t408).bind fun bt415 => ((impl_LeastSameDigits.f k t408).bind fun bt417 => ((spec_LeastSameDigits.f k t408).bind fun bt419 => ((impl_GreatestSameDigits.f k t408).bind fun bt421 => ((spec_GreatestSameDigits.f k t408).bind fun bt423 => ((impl_ProductOfDigits.f k t408).bind fun bt425 => ((spec_ProductOfDigits.f k t408).bind fun bt427 => ((impl_ProductSteps.f k t408).bind fun bt429 => ((spec_ProductSteps.f k t408).bind fun bt431 => (if (bt409.2 != bt411.2) = true then (laws_FnLeastOfDigits.j0 k l1 t408 bt409.1 bt409.2 bt413.1 bt413.2 bt417.1 bt417.2 bt421.1 bt425.1 bt429.1 true) else (if bt409.1 = bt411.1 then (if (bt413.2 != bt415.2) = true then (laws_FnLeastOfDigits.j0 k l1 t408 bt409.1 bt409.2 bt413.1 bt413.2 bt417.1 bt417.2 bt421.1 bt425.1 bt429.1 true) else (if bt413.1 = bt415.1 then (if (bt417.2 != bt419.2) = true then (laws_FnLeastOfDigits.j0 k l1 t408 bt409.1 bt409.2 bt413.1 bt413.2 bt417.1 bt417.2 bt421.1 bt425.1 bt429.1 true) else (if bt417.1 = bt419.1 then (if (bt421.2 != bt423.2) = true then (laws_FnLeastOfDigits.j0 k l1 t408 bt409.1 bt409.2 bt413.1 bt413.2 bt417.1 bt417.2 bt421.1 bt425.1 bt429.1 true) else (if bt421.1 = bt423.1 then (if (bt425.2 != bt427.2) = true then (laws_FnLeastOfDigits.j0 k l1 t408 bt409.1 bt409.2 bt413.1 bt413.2 bt417.1 bt417.2 bt421.1 bt425.1 bt429.1 true) else (if bt425.1 = bt427.1 then (if (bt429.2 != bt431.2) = true then (laws_FnLeastOfDigits.j0 k l1 t408 bt409.1 bt409.2 bt413.1 bt413.2 bt417.1 bt417.2 bt421.1 bt425.1 bt429.1 true) else (if bt429.1 = bt431.1 then (if bt409.2 = true then (if bt417.2 = true then (if bt413.2 = true then (if (bt421.2 != bt417.2) = true then (laws_FnLeastOfDigits.j0 k l1 t408 bt409.1 bt409.2 bt413.1 bt413.2 bt417.1 bt417.2 bt421.1 bt425.1 bt429.1 true) else (if (bt425.2 != bt417.2) = true then (laws_FnLeastOfDigits.j0 k l1 t408 bt409.1 bt409.2 bt413.1 bt413.2 bt417.1 bt417.2 bt421.1 bt425.1 bt429.1 true) else (laws_FnLeastOfDigits.j0 k l1 t408 bt409.1 bt409.2 bt413.1 bt413.2 bt417.1 bt417.2 bt421.1 bt425.1 bt429.1 (bt429.2 != bt417.2)))) else (if (bt421.2 != bt417.2) = true then (laws_FnLeastOfDigits.j0 k l1 t408 bt409.1 bt409.2 bt413.1 bt413.2 bt417.1 bt417.2 bt421.1 bt425.1 bt429.1 true) else (if (bt425.2 != bt417.2) = true then (laws_FnLeastOfDigits.j0 k l1 t408 bt409.1 bt409.2 bt413.1 bt413.2 bt417.1 bt417.2 bt421.1 bt425.1 bt429.1 true) else (laws_FnLeastOfDigits.j0 k l1 t408 bt409.1 bt409.2 bt413.1 bt413.2 bt417.1 bt417.2 bt421.1 bt425.1 bt429.1 (bt429.2 != bt417.2))))) else (laws_FnLeastOfDigits.j0 k l1 t408 bt409.1 bt409.2 bt413.1 bt413.2 bt417.1 bt417.2 bt421.1 bt425.1 bt429.1 true)) else (if bt413.2 = true then (if bt417.2 = true then (if (bt421.2 != bt417.2) = true then (laws_FnLeastOfDigits.j0 k l1 t408 bt409.1 bt409.2 bt413.1 bt413.2 bt417.1 bt417.2 bt421.1 bt425.1 bt429.1 true) else (if (bt425.2 != bt417.2) = true then (laws_FnLeastOfDigits.j0 k l1 t408 bt409.1 bt409.2 bt413.1 bt413.2 bt417.1 bt417.2 bt421.1 bt425.1 bt429.1 true) else (laws_FnLeastOfDigits.j0 k l1 t408 bt409.1 bt409.2 bt413.1 bt413.2 bt417.1 bt417.2 bt421.1 bt425.1 bt429.1 (bt429.2 != bt417.2)))) else (laws_FnLeastOfDigits.j0 k l1 t408 bt409.1 bt409.2 bt413.1 bt413.2 bt417.1 bt417.2 bt421.1 bt425.1 bt429.1 true)) else (if (bt421.2 != bt417.2) = true then (laws_FnLeastOfDigits.j0 k l1 t408 bt409.1 bt409.2 bt413.1 bt413.2 bt417.1 bt417.2 bt421.1 bt425.1 bt429.1 true) else (if (bt425.2 != bt417.2) = true then (laws_FnLeastOfDigits.j0 k l1 t408 bt409.1 bt409.2 bt413.1 bt413.2 bt417.1 bt417.2 bt421.1 bt425.1 bt429.1 true) else (laws_FnLeastOfDigits.j0 k l1 t408 bt409.1 bt409.2 bt413.1 bt413.2 bt417.1 bt417.2 bt421.1 bt425.1 bt429.1 (bt429.2 != bt417.2)))))) else (laws_FnLeastOfDigits.j0 k l1 t408 bt409.1 bt409.2 bt413.1 bt413.2 bt417.1 bt417.2 bt421.1 bt425.1 bt429.1 true))) else (laws_FnLeastOfDigits.j0 k l1 t408 bt409.1 bt409.2 bt413.1 bt413.2 bt417.1 bt417.2 bt421.1 bt425.1 bt429.1 true))) else (laws_FnLeastOfDigits.j0 k l1 t408 bt409.1 bt409.2 bt413.1 bt413.2 bt417.1 bt417.2 bt421.1 bt425.1 bt429.1 true))) else (laws_FnLeastOfDigits.j0 k l1 t408 bt409.1 bt409.2 bt413.1 bt413.2 bt417.1 bt417.2 bt421.1 bt425.1 bt429.1 true))) else (laws_FnLeastOfDigits.j0 k l1 t408 bt409.1 bt409.2 bt413.1 bt413.2 bt417.1 bt417.2 bt421.1 bt425.1 bt429.1 true))) else (laws_FnLeastOfDigits.j0 k l1 t408 bt409.1 bt409.2 bt413.1 bt413.2 bt417.1 bt417.2 bt421.1 bt425.1 bt429.1 true)))))))))))))))))) = some r := h
 clear h
 replace H := Option.bind_eq_some_iff.mp H
 obtain ⟨t407, A30, H⟩ := H
 have A3 := Aside0.mk A30
 clear A30
 by_cases c4 : t407 = true
 · subst c4
   rw [if_pos rfl] at H
   as_aux_lemma =>
    obtain rfl := Option.some.inj H
    go_enter Tryz.func3, Tryz.ntmps3
    go_wp2_with (first | (go_at_call 4; (with_reducible refine (laws_big.calls _ _ l0 _ _ l1 true _ ?side1 ?side2 ?side3 ?side4 A3.out).mono ?_); (case side1 => repeat (first | exact HR0.out | (with_reducible refine Kd.C_alloc ?_ _) | (with_reducible refine Kd.C_drewN ?_ _) | (with_reducible refine Kd.C_drew ?_))); (case side2 => exact HC0.out); (case side3 => repeat (first | exact HR1.out | (with_reducible refine Kd.C_alloc ?_ _) | (with_reducible refine Kd.C_drewN ?_ _) | (with_reducible refine Kd.C_drew ?_))); (case side4 => exact HC1.out); rintro e w' ⟨rfl, ⟨nd, rfl⟩⟩; (try first | exact ⟨rfl, _, World.drewN_drewN _ _ _⟩ | exact ⟨rfl, _, Eq.trans (World.drewN_drewN _ _ _) (congrArg (World.drewN _) (Nat.add_assoc _ _ _))⟩)))
    repeat (go_quiet (fail); try go_wp2_with (first | (go_at_call 4; (with_reducible refine (laws_big.calls _ _ l0 _ _ l1 true _ ?side1 ?side2 ?side3 ?side4 A3.out).mono ?_); (case side1 => repeat (first | exact HR0.out | (with_reducible refine Kd.C_alloc ?_ _) | (with_reducible refine Kd.C_drewN ?_ _) | (with_reducible refine Kd.C_drew ?_))); (case side2 => exact HC0.out); (case side3 => repeat (first | exact HR1.out | (with_reducible refine Kd.C_alloc ?_ _) | (with_reducible refine Kd.C_drewN ?_ _) | (with_reducible refine Kd.C_drew ?_))); (case side4 => exact HC1.out); rintro e w' ⟨rfl, ⟨nd, rfl⟩⟩; (try first | exact ⟨rfl, _, World.drewN_drewN _ _ _⟩ | exact ⟨rfl, _, Eq.trans (World.drewN_drewN _ _ _) (congrArg (World.drewN _) (Nat.add_assoc _ _ _))⟩))))
    go_ret
    exact ⟨by first | exact rfl | (simp [errW_none, errW_some] <;> rfl) | (simp [*, errW_none, errW_some] <;> rfl), by repeat (first | (with_reducible first | exact HB.out | apply below_alloc | apply pw_below_drewN | apply below_drew1) | exact HB.out)⟩
 replace c4 := Bool.eq_false_iff.mpr c4
 subst c4
 rw [if_neg (show ¬ (false = true) by decide)] at H
 as_aux_lemma =>
 replace H := Option.bind_eq_some_iff.mp H
 obtain ⟨t408, A50, H⟩ := H
 have A5 := Aside0.mk A50
 clear A50
 replace H := Option.bind_eq_some_iff.mp H
 obtain ⟨⟨t409, t410⟩, A60, H⟩ := H
 dsimp only at H
 have A6 := Aside0.mk A60
 clear A60
 replace H := Option.bind_eq_some_iff.mp H
 obtain ⟨⟨t411, t412⟩, A70, H⟩ := H
 dsimp only at H
 have A7 := Aside0.mk A70
 clear A70
 replace H := Option.bind_eq_some_iff.mp H
 obtain ⟨⟨t413, t414⟩, A80, H⟩ := H
 dsimp only at H
 have A8 := Aside0.mk A80
 clear A80
 replace H := Option.bind_eq_some_iff.mp H
 obtain ⟨⟨t415, t416⟩, A90, H⟩ := H
 dsimp only at H
 have A9 := Aside0.mk A90
 clear A90
 replace H := Option.bind_eq_some_iff.mp H
 obtain ⟨⟨t417, t418⟩, A100, H⟩ := H
 dsimp only at H
 have A10 := Aside0.mk A100
 clear A100
 as_aux_lemma =>
 replace H := Option.bind_eq_some_iff.mp H
 obtain ⟨⟨t419, t420⟩, A110, H⟩ := H
 dsimp only at H
 have A11 := Aside0.mk A110
 clear A110
 replace H := Option.bind_eq_some_iff.mp H
 obtain ⟨⟨t421, t422⟩, A120, H⟩ := H
 dsimp only at H
 have A12 := Aside0.mk A120
 clear A120
 replace H := Option.bind_eq_some_iff.mp H
 obtain ⟨⟨t423, t424⟩, A130, H⟩ := H
 dsimp only at H
 have A13 := Aside0.mk A130
 clear A130
 replace H := Option.bind_eq_some_iff.mp H
 obtain ⟨⟨t425, t426⟩, A140, H⟩ := H
 dsimp only at H
 have A14 := Aside0.mk A140
 clear A140
 replace H := Option.bind_eq_some_iff.mp H
 obtain ⟨⟨t427, t428⟩, A150, H⟩ := H
 dsimp only at H
 have A15 := Aside0.mk A150
 clear A150
 as_aux_lemma =>
 replace H := Option.bind_eq_some_iff.mp H
 obtain ⟨⟨t429, t430⟩, A160, H⟩ := H
 dsimp only at H
 have A16 := Aside0.mk A160
 clear A160
 replace H := Option.bind_eq_some_iff.mp H
 obtain ⟨⟨t431, t432⟩, A170, H⟩ := H
 dsimp only at H
 have A17 := Aside0.mk A170
 clear A170
 have HC18 := Aside0.mk H
 clear H
 go_enter Tryz.func3, Tryz.ntmps3
 go_upto_region 16 with (first | (go_at_call 4; (with_reducible refine (laws_big.calls _ _ l0 _ _ l1 false _ ?side1 ?side2 ?side3 ?side4 A3.out).mono ?_); (case side1 => repeat (first | exact HR0.out | (with_reducible refine Kd.C_alloc ?_ _) | (with_reducible refine Kd.C_drewN ?_ _) | (with_reducible refine Kd.C_drew ?_))); (case side2 => exact HC0.out); (case side3 => repeat (first | exact HR1.out | (with_reducible refine Kd.C_alloc ?_ _) | (with_reducible refine Kd.C_drewN ?_ _) | (with_reducible refine Kd.C_drew ?_))); (case side4 => exact HC1.out); rintro e w' ⟨rfl, ⟨nd, rfl⟩⟩; (try first | exact ⟨rfl, _, World.drewN_drewN _ _ _⟩ | exact ⟨rfl, _, Eq.trans (World.drewN_drewN _ _ _) (congrArg (World.drewN _) (Nat.add_assoc _ _ _))⟩)) | (go_at_call 5; (with_reducible refine (spec_DrawNextSameDigits.calls _ _ l0 t408 _ ?side1 ?side2 A5.out).mono ?_); (case side1 => repeat (first | exact HR0.out | (with_reducible refine Kd.C_alloc ?_ _) | (with_reducible refine Kd.C_drewN ?_ _) | (with_reducible refine Kd.C_drew ?_))); (case side2 => exact HC0.out); rintro e w19 ⟨rfl, hb⟩; have n0_ := Aside0.mk (below_step z12_0_ hb); clear HB; have HB := n0_; clear n0_; (try clear hb); (try clear hb2); (try clear hk); (try clear hi)) | (go_at_call 6; (with_reducible refine (impl_NextSameDigits.calls k t408 t409 t410 _ ?side1 A6.out).mono ?_); (case side1 => exact Shelf.TabOk.below HT.out z12_0_); rintro e w20 ⟨rfl, hb⟩; have n0_ := Aside0.mk (below_step z12_0_ hb); clear HB; have HB := n0_; clear n0_; (try clear hb); (try clear hb2); (try clear hk); (try clear hi)) | (go_at_call 7; (with_reducible refine (spec_NextSameDigits.calls k t408 t411 t412 _ A7.out).mono ?_); rintro e w21 ⟨rfl, hb⟩; have n0_ := Aside0.mk (below_step z12_0_ hb); clear HB; have HB := n0_; clear n0_; (try clear hb); (try clear hb2); (try clear hk); (try clear hi)) | (go_at_call 8; (with_reducible refine (impl_LastSameDigits.calls k t408 t413 t414 _ ?side1 A8.out).mono ?_); (case side1 => exact Shelf.TabOk.below HT.out z12_0_); rintro e w22 ⟨rfl, hb⟩; have n0_ := Aside0.mk (below_step z12_0_ hb); clear HB; have HB := n0_; clear n0_; (try clear hb); (try clear hb2); (try clear hk); (try clear hi)) | (go_at_call 9; (with_reducible refine (spec_LastSameDigits.calls k t408 t415 t416 _ A9.out).mono ?_); rintro e w23 ⟨rfl, hb⟩; have n0_ := Aside0.mk (below_step z12_0_ hb); clear HB; have HB := n0_; clear n0_; (try clear hb); (try clear hb2); (try clear hk); (try clear hi)) | (go_at_call 10; (with_reducible refine (impl_LeastSameDigits.calls k t408 t417 t418 _ ?side1 A10.out).mono ?_); (case side1 => exact Shelf.TabOk.below HT.out z12_0_); rintro e w24 ⟨rfl, hb⟩; have n0_ := Aside0.mk (below_step z12_0_ hb); clear HB; have HB := n0_; clear n0_; (try clear hb); (try clear hb2); (try clear hk); (try clear hi)) | (go_at_call 11; (with_reducible refine (spec_LeastSameDigits.calls k t408 t419 t420 _ A11.out).mono ?_); rintro e w25 ⟨rfl, hb⟩; have n0_ := Aside0.mk (below_step z12_0_ hb); clear HB; have HB := n0_; clear n0_; (try clear hb); (try clear hb2); (try clear hk); (try clear hi)) | (go_at_call 12; (with_reducible refine (impl_GreatestSameDigits.calls k t408 t421 t422 _ ?side1 A12.out).mono ?_); (case side1 => exact Shelf.TabOk.below HT.out z12_0_); rintro e w26 ⟨rfl, hb⟩; have n0_ := Aside0.mk (below_step z12_0_ hb); clear HB; have HB := n0_; clear n0_; (try clear hb); (try clear hb2); (try clear hk); (try clear hi)) | (go_at_call 13; (with_reducible refine (spec_GreatestSameDigits.calls k t408 t423 t424 _ A13.out).mono ?_); rintro e w27 ⟨rfl, hb⟩; have n0_ := Aside0.mk (below_step z12_0_ hb); clear HB; have HB := n0_; clear n0_; (try clear hb); (try clear hb2); (try clear hk); (try clear hi)) | (go_at_call 14; (with_reducible refine (impl_ProductOfDigits.calls k t408 t425 t426 _ ?side1 A14.out).mono ?_); (case side1 => exact Shelf.TabOk.below HT.out z12_0_); rintro e w28 ⟨rfl, hb⟩; have n0_ := Aside0.mk (below_step z12_0_ hb); clear HB; have HB := n0_; clear n0_; (try clear hb); (try clear hb2); (try clear hk); (try clear hi)) | (go_at_call 15; (with_reducible refine (spec_ProductOfDigits.calls k t408 t427 t428 _ A15.out).mono ?_); rintro e w29 ⟨rfl, hb⟩; have n0_ := Aside0.mk (below_step z12_0_ hb); clear HB; have HB := n0_; clear n0_; (try clear hb); (try clear hb2); (try clear hk); (try clear hi)) | (go_at_call 16; (with_reducible refine (impl_ProductSteps.calls k t408 t429 t430 _ ?side1 A16.out).mono ?_); (case side1 => exact Shelf.TabOk.below HT.out z12_0_); rintro e w30 ⟨rfl, hb⟩; have n0_ := Aside0.mk (below_step z12_0_ hb); clear HB; have HB := n0_; clear n0_; (try clear hb); (try clear hb2); (try clear hk); (try clear hi)) | (go_at_call 17; (with_reducible refine (spec_ProductSteps.calls k t408 t431 t432 _ A17.out).mono ?_); rintro e w31 ⟨rfl, hb⟩; have n0_ := Aside0.mk (below_step z12_0_ hb); clear HB; have HB := n0_; clear n0_; (try clear hb); (try clear hb2); (try clear hk); (try clear hi)))
 repeat (go_quiet (fail); go_upto_region 16 with (first | (go_at_call 4; (with_reducible refine (laws_big.calls _ _ l0 _ _ l1 false _ ?side1 ?side2 ?side3 ?side4 A3.out).mono ?_); (case side1 => repeat (first | exact HR0.out | (with_reducible refine Kd.C_alloc ?_ _) | (with_reducible refine Kd.C_drewN ?_ _) | (with_reducible refine Kd.C_drew ?_))); (case side2 => exact HC0.out); (case side3 => repeat (first | exact HR1.out | (with_reducible refine Kd.C_alloc ?_ _) | (with_reducible refine Kd.C_drewN ?_ _) | (with_reducible refine Kd.C_drew ?_))); (case side4 => exact HC1.out); rintro e w' ⟨rfl, ⟨nd, rfl⟩⟩; (try first | exact ⟨rfl, _, World.drewN_drewN _ _ _⟩ | exact ⟨rfl, _, Eq.trans (World.drewN_drewN _ _ _) (congrArg (World.drewN _) (Nat.add_assoc _ _ _))⟩)) | (go_at_call 5; (with_reducible refine (spec_DrawNextSameDigits.calls _ _ l0 t408 _ ?side1 ?side2 A5.out).mono ?_); (case side1 => repeat (first | exact HR0.out | (with_reducible refine Kd.C_alloc ?_ _) | (with_reducible refine Kd.C_drewN ?_ _) | (with_reducible refine Kd.C_drew ?_))); (case side2 => exact HC0.out); rintro e w19 ⟨rfl, hb⟩; have n0_ := Aside0.mk (below_step z12_0_ hb); clear HB; have HB := n0_; clear n0_; (try clear hb); (try clear hb2); (try clear hk); (try clear hi)) | (go_at_call 6; (with_reducible refine (impl_NextSameDigits.calls k t408 t409 t410 _ ?side1 A6.out).mono ?_); (case side1 => exact Shelf.TabOk.below HT.out z12_0_); rintro e w20 ⟨rfl, hb⟩; have n0_ := Aside0.mk (below_step z12_0_ hb); clear HB; have HB := n0_; clear n0_; (try clear hb); (try clear hb2); (try clear hk); (try clear hi)) | (go_at_call 7; (with_reducible refine (spec_NextSameDigits.calls k t408 t411 t412 _ A7.out).mono ?_); rintro e w21 ⟨rfl, hb⟩; have n0_ := Aside0.mk (below_step z12_0_ hb); clear HB; have HB := n0_; clear n0_; (try clear hb); (try clear hb2); (try clear hk); (try clear hi)) | (go_at_call 8; (with_reducible refine (impl_LastSameDigits.calls k t408 t413 t414 _ ?side1 A8.out).mono ?_); (case side1 => exact Shelf.TabOk.below HT.out z12_0_); rintro e w22 ⟨rfl, hb⟩; have n0_ := Aside0.mk (below_step z12_0_ hb); clear HB; have HB := n0_; clear n0_; (try clear hb); (try clear hb2); (try clear hk); (try clear hi)) | (go_at_call 9; (with_reducible refine (spec_LastSameDigits.calls k t408 t415 t416 _ A9.out).mono ?_); rintro e w23 ⟨rfl, hb⟩; have n0_ := Aside0.mk (below_step z12_0_ hb); clear HB; have HB := n0_; clear n0_; (try clear hb); (try clear hb2); (try clear hk); (try clear hi)) | (go_at_call 10; (with_reducible refine (impl_LeastSameDigits.calls k t408 t417 t418 _ ?side1 A10.out).mono ?_); (case side1 => exact Shelf.TabOk.below HT.out z12_0_); rintro e w24 ⟨rfl, hb⟩; have n0_ := Aside0.mk (below_step z12_0_ hb); clear HB; have HB := n0_; clear n0_; (try clear hb); (try clear hb2); (try clear hk); (try clear hi)) | (go_at_call 11; (with_reducible refine (spec_LeastSameDigits.calls k t408 t419 t420 _ A11.out).mono ?_); rintro e w25 ⟨rfl, hb⟩; have n0_ := Aside0.mk (below_step z12_0_ hb); clear HB; have HB := n0_; clear n0_; (try clear hb); (try clear hb2); (try clear hk); (try clear hi)) | (go_at_call 12; (with_reducible refine (impl_GreatestSameDigits.calls k t408 t421 t422 _ ?side1 A12.out).mono ?_); (case side1 => exact Shelf.TabOk.below HT.out z12_0_); rintro e w26 ⟨rfl, hb⟩; have n0_ := Aside0.mk (below_step z12_0_ hb); clear HB; have HB := n0_; clear n0_; (try clear hb); (try clear hb2); (try clear hk); (try clear hi)) | (go_at_call 13; (with_reducible refine (spec_GreatestSameDigits.calls k t408 t423 t424 _ A13.out).mono ?_); rintro e w27 ⟨rfl, hb⟩; have n0_ := Aside0.mk (below_step z12_0_ hb); clear HB; have HB := n0_; clear n0_; (try clear hb); (try clear hb2); (try clear hk); (try clear hi)) | (go_at_call 14; (with_reducible refine (impl_ProductOfDigits.calls k t408 t425 t426 _ ?side1 A14.out).mono ?_); (case side1 => exact Shelf.TabOk.below HT.out z12_0_); rintro e w28 ⟨rfl, hb⟩; have n0_ := Aside0.mk (below_step z12_0_ hb); clear HB; have HB := n0_; clear n0_; (try clear hb); (try clear hb2); (try clear hk); (try clear hi)) | (go_at_call 15; (with_reducible refine (spec_ProductOfDigits.calls k t408 t427 t428 _ A15.out).mono ?_); rintro e w29 ⟨rfl, hb⟩; have n0_ := Aside0.mk (below_step z12_0_ hb); clear HB; have HB := n0_; clear n0_; (try clear hb); (try clear hb2); (try clear hk); (try clear hi)) | (go_at_call 16; (with_reducible refine (impl_ProductSteps.calls k t408 t429 t430 _ ?side1 A16.out).mono ?_); (case side1 => exact Shelf.TabOk.below HT.out z12_0_); rintro e w30 ⟨rfl, hb⟩; have n0_ := Aside0.mk (below_step z12_0_ hb); clear HB; have HB := n0_; clear n0_; (try clear hb); (try clear hb2); (try clear hk); (try clear hi)) | (go_at_call 17; (with_reducible refine (spec_ProductSteps.calls k t408 t431 t432 _ A17.out).mono ?_); rintro e w31 ⟨rfl, hb⟩; have n0_ := Aside0.mk (below_step z12_0_ hb); clear HB; have HB := n0_; clear n0_; (try clear hb); (try clear hb2); (try clear hk); (try clear hi))))
 (try simp only [Act.put, List.setIfInBounds_toArray, List.set_cons_zero, List.set_cons_succ])
 go_cut [228] from 77 to 228 (fun v228 wc => ∃ (kq : Nat) (x228_17 : Bool), v228 = .bool x228_17 ∧ Aside0 (laws_FnLeastOfDigits.j0 kq l1 t408 t409 t410 t413 t414 t417 t418 t421 t425 t429 x228_17 = some r) ∧ Aside0 (kq ≤ k) ∧ Aside0 (Below w.heap.size w wc))
 case first =>
  as_aux_lemma =>
  have H := HC18.out
  clear HC18
  by_cases c32 : (t410 != t412) = true
  · exact laws_FnLeastOfDigits.j0_dead ((if_pos c32).symm.trans H) hr_
  rw [if_neg c32] at H
  have c32b0 : (t410 != t412) = false := by simpa using c32
  (try (have c32b1 : decide (t410 = t412) = true := by simpa using c32))
  (try (have c32b2 : (t410 == t412) = true := by simpa using c32))
  clear c32
  (first | rw [c32b0] | (simp only [i64_w, i32_w]; rw [c32b0]) | skip)
  by_cases c33 : t409 = t411
  rotate_left
  · exact laws_FnLeastOfDigits.j0_dead ((if_neg c33).symm.trans H) hr_
  rw [if_pos c33] at H
  have c33b0 : (t409 == t411) = true := beq_iff_eq.mpr c33
  have c33b1 : (t409 != t411) = false := bne_eq_false_iff_eq.mpr c33
  clear c33
  by_cases c34 : (t414 != t416) = true
  · exact laws_FnLeastOfDigits.j0_dead ((if_pos c34).symm.trans H) hr_
  rw [if_neg c34] at H
  have c34b0 : (t414 != t416) = false := by simpa using c34
  (try (have c34b1 : decide (t414 = t416) = true := by simpa using c34))
  (try (have c34b2 : (t414 == t416) = true := by simpa using c34))
  clear c34
  by_cases c35 : t413 = t415
  rotate_left
  · exact laws_FnLeastOfDigits.j0_dead ((if_neg c35).symm.trans H) hr_
  rw [if_pos c35] at H
  have c35b0 : (t413 == t415) = true := beq_iff_eq.mpr c35
  have c35b1 : (t413 != t415) = false := bne_eq_false_iff_eq.mpr c35
  clear c35
  as_aux_lemma =>
  by_cases c36 : (t418 != t420) = true
  · exact laws_FnLeastOfDigits.j0_dead ((if_pos c36).symm.trans H) hr_
  rw [if_neg c36] at H
  have c36b0 : (t418 != t420) = false := by simpa using c36
  (try (have c36b1 : decide (t418 = t420) = true := by simpa using c36))
  (try (have c36b2 : (t418 == t420) = true := by simpa using c36))
  clear c36
  by_cases c37 : t417 = t419
  rotate_left
  · exact laws_FnLeastOfDigits.j0_dead ((if_neg c37).symm.trans H) hr_
  rw [if_pos c37] at H
  have c37b0 : (t417 == t419) = true := beq_iff_eq.mpr c37
  have c37b1 : (t417 != t419) = false := bne_eq_false_iff_eq.mpr c37
  clear c37
  by_cases c38 : (t422 != t424) = true
  · exact laws_FnLeastOfDigits.j0_dead ((if_pos c38).symm.trans H) hr_
  rw [if_neg c38] at H
  have c38b0 : (t422 != t424) = false := by simpa using c38
  (try (have c38b1 : decide (t422 = t424) = true := by simpa using c38))
  (try (have c38b2 : (t422 == t424) = true := by simpa using c38))
  clear c38
  by_cases c39 : t421 = t423
  rotate_left
  · exact laws_FnLeastOfDigits.j0_dead ((if_neg c39).symm.trans H) hr_
  rw [if_pos c39] at H
  have c39b0 : (t421 == t423) = true := beq_iff_eq.mpr c39
  have c39b1 : (t421 != t423) = false := bne_eq_false_iff_eq.mpr c39
  clear c39
  as_aux_lemma =>
  by_cases c40 : (t426 != t428) = true
  · exact laws_FnLeastOfDigits.j0_dead ((if_pos c40).symm.trans H) hr_
  rw [if_neg c40] at H
  have c40b0 : (t426 != t428) = false := by simpa using c40
  (try (have c40b1 : decide (t426 = t428) = true := by simpa using c40))
  (try (have c40b2 : (t426 == t428) = true := by simpa using c40))
  clear c40
  by_cases c41 : t425 = t427
  rotate_left
  · exact laws_FnLeastOfDigits.j0_dead ((if_neg c41).symm.trans H) hr_
  rw [if_pos c41] at H
  have c41b0 : (t425 == t427) = true := beq_iff_eq.mpr c41
  have c41b1 : (t425 != t427) = false := bne_eq_false_iff_eq.mpr c41
  clear c41
  by_cases c42 : (t430 != t432) = true
  · exact laws_FnLeastOfDigits.j0_dead ((if_pos c42).symm.trans H) hr_
  rw [if_neg c42] at H
  have c42b0 : (t430 != t432) = false := by simpa using c42
  (try (have c42b1 : decide (t430 = t432) = true := by simpa using c42))
  (try (have c42b2 : (t430 == t432) = true := by simpa using c42))
  clear c42
  by_cases c43 : t429 = t431
  rotate_left
  · exact laws_FnLeastOfDigits.j0_dead ((if_neg c43).symm.trans H) hr_
  rw [if_pos c43] at H
  have c43b0 : (t429 == t431) = true := beq_iff_eq.mpr c43
  have c43b1 : (t429 != t431) = false := bne_eq_false_iff_eq.mpr c43
  clear c43
  as_aux_lemma =>
  by_cases c44 : t410 = true
  · subst c44
    rw [if_pos rfl] at H
    by_cases c45 : t418 = true
    · subst c45
      rw [if_pos rfl] at H
      by_cases c46 : t414 = true
      · subst c46
        rw [if_pos rfl] at H
        by_cases c47 : (t422 != true) = true
        · exact laws_FnLeastOfDigits.j0_dead ((if_pos c47).symm.trans H) hr_
        rw [if_neg c47] at H
        have c47b0 : (t422 != true) = false := by simpa using c47
        (try (have c47b1 : decide (t422 = true) = true := by simpa using c47))
        (try (have c47b2 : (t422 == true) = true := by simpa using c47))
        clear c47
        by_cases c48 : (t426 != true) = true
        · exact laws_FnLeastOfDigits.j0_dead ((if_pos c48).symm.trans H) hr_
        rw [if_neg c48] at H
        have c48b0 : (t426 != true) = false := by simpa using c48
        (try (have c48b1 : decide (t426 = true) = true := by simpa using c48))
        (try (have c48b2 : (t426 == true) = true := by simpa using c48))
        clear c48
        as_aux_lemma =>
         have H' := Aside0.mk H
         clear H
         go_wp2
         repeat (go_quiet (fail); try go_wp2)
         try any_goals (exfalso; exact undef_bool_ (by with_reducible assumption))
         go_meet
         case rel => exact ⟨_, ((t430 != true)), z12_1_, H', ⟨by first | omega | exact Nat.le_refl _⟩, ⟨by repeat (first | (with_reducible first | exact HB.out | apply below_alloc | apply pw_below_drewN | apply below_drew1) | exact HB.out)⟩⟩
      replace c46 := Bool.eq_false_iff.mpr c46
      subst c46
      rw [if_neg (show ¬ (false = true) by decide)] at H
      as_aux_lemma =>
      by_cases c49 : (t422 != true) = true
      · exact laws_FnLeastOfDigits.j0_dead ((if_pos c49).symm.trans H) hr_
      rw [if_neg c49] at H
      have c49b0 : (t422 != true) = false := by simpa using c49
      (try (have c49b1 : decide (t422 = true) = true := by simpa using c49))
      (try (have c49b2 : (t422 == true) = true := by simpa using c49))
      clear c49
      by_cases c50 : (t426 != true) = true
      · exact laws_FnLeastOfDigits.j0_dead ((if_pos c50).symm.trans H) hr_
      rw [if_neg c50] at H
      have c50b0 : (t426 != true) = false := by simpa using c50
      (try (have c50b1 : decide (t426 = true) = true := by simpa using c50))
      (try (have c50b2 : (t426 == true) = true := by simpa using c50))
      clear c50
      as_aux_lemma =>
       have H' := Aside0.mk H
       clear H
       go_wp2
       repeat (go_quiet (fail); try go_wp2)
       try any_goals (exfalso; exact undef_bool_ (by with_reducible assumption))
       go_meet
       case rel => exact ⟨_, ((t430 != true)), z12_1_, H', ⟨by first | omega | exact Nat.le_refl _⟩, ⟨by repeat (first | (with_reducible first | exact HB.out | apply below_alloc | apply pw_below_drewN | apply below_drew1) | exact HB.out)⟩⟩
    replace c45 := Bool.eq_false_iff.mpr c45
    subst c45
    rw [if_neg (show ¬ (false = true) by decide)] at H
    as_aux_lemma =>
     first | exact laws_FnLeastOfDigits.j0_dead H hr_ | exact laws_FnLeastOfDigits.j4_dead H hr_
  replace c44 := Bool.eq_false_iff.mpr c44
  subst c44
  rw [if_neg (show ¬ (false = true) by decide)] at H
  as_aux_lemma =>
  by_cases c51 : t414 = true
  · subst c51
    rw [if_pos rfl] at H
    by_cases c52 : t418 = true
    · subst c52
      rw [if_pos rfl] at H
      by_cases c53 : (t422 != true) = true
      · exact laws_FnLeastOfDigits.j0_dead ((if_pos c53).symm.trans H) hr_
      rw [if_neg c53] at H
      have c53b0 : (t422 != true) = false := by simpa using c53
      (try (have c53b1 : decide (t422 = true) = true := by simpa using c53))
      (try (have c53b2 : (t422 == true) = true := by simpa using c53))
      clear c53
      by_cases c54 : (t426 != true) = true
      · exact laws_FnLeastOfDigits.j0_dead ((if_pos c54).symm.trans H) hr_
      rw [if_neg c54] at H
      have c54b0 : (t426 != true) = false := by simpa using c54
      (try (have c54b1 : decide (t426 = true) = true := by simpa using c54))
      (try (have c54b2 : (t426 == true) = true := by simpa using c54))
      clear c54
      as_aux_lemma =>
       have H' := Aside0.mk H
       clear H
       go_wp2
       repeat (go_quiet (fail); try go_wp2)
       try any_goals (exfalso; exact undef_bool_ (by with_reducible assumption))
       go_meet
       case rel => exact ⟨_, ((t430 != true)), z12_1_, H', ⟨by first | omega | exact Nat.le_refl _⟩, ⟨by repeat (first | (with_reducible first | exact HB.out | apply below_alloc | apply pw_below_drewN | apply below_drew1) | exact HB.out)⟩⟩
    replace c52 := Bool.eq_false_iff.mpr c52
    subst c52
    rw [if_neg (show ¬ (false = true) by decide)] at H
    as_aux_lemma =>
     first | exact laws_FnLeastOfDigits.j0_dead H hr_ | exact laws_FnLeastOfDigits.j4_dead H hr_
  replace c51 := Bool.eq_false_iff.mpr c51
  subst c51
  rw [if_neg (show ¬ (false = true) by decide)] at H
  as_aux_lemma =>
  by_cases c55 : (t422 != t418) = true
  · exact laws_FnLeastOfDigits.j0_dead ((if_pos c55).symm.trans H) hr_
  rw [if_neg c55] at H
  have c55b0 : (t422 != t418) = false := by simpa using c55
  (try (have c55b1 : decide (t422 = t418) = true := by simpa using c55))
  (try (have c55b2 : (t422 == t418) = true := by simpa using c55))
  clear c55
  by_cases c56 : (t426 != t418) = true
  · exact laws_FnLeastOfDigits.j0_dead ((if_pos c56).symm.trans H) hr_
  rw [if_neg c56] at H
  have c56b0 : (t426 != t418) = false := by simpa using c56
  (try (have c56b1 : decide (t426 = t418) = true := by simpa using c56))
  (try (have c56b2 : (t426 == t418) = true := by simpa using c56))
  clear c56
  as_aux_lemma =>
   have H' := Aside0.mk H
   clear H
   go_wp2
   repeat (go_quiet (fail); try go_wp2)
   try any_goals (exfalso; exact undef_bool_ (by with_reducible assumption))
   go_meet
   case rel => exact ⟨_, ((t430 != t418)), z12_1_, H', ⟨by first | omega | exact Nat.le_refl _⟩, ⟨by repeat (first | (with_reducible first | exact HB.out | apply below_alloc | apply pw_below_drewN | apply below_drew1) | exact HB.out)⟩⟩
 case rest =>
  as_aux_lemma =>
  clear HC18
  (try clear c1);(try clear p2);(try clear c3);(try clear c4);(try clear c5);(try clear c32);(try clear c32b0);(try clear c32b1);(try clear c32b2);(try clear c33);(try clear c33b0);(try clear c33b1);(try clear c34);(try clear c34b0);(try clear c34b1);(try clear c34b2);(try clear c35);(try clear c35b0);(try clear c35b1);(try clear c36);(try clear c36b0);(try clear c36b1);(try clear c36b2);(try clear c37);(try clear c37b0);(try clear c37b1);(try clear c38);(try clear c38b0);(try clear c38b1);(try clear c38b2);(try clear c39);(try clear c39b0);(try clear c39b1);(try clear c40);(try clear c40b0);(try clear c40b1);(try clear c40b2);(try clear c41);(try clear c41b0);(try clear c41b1);(try clear c42);(try clear c42b0);(try clear c42b1);(try clear c42b2);(try clear c43);(try clear c43b0);(try clear c43b1);(try clear c44);(try clear c45);(try clear c46);(try clear c47);(try clear c47b0);(try clear c47b1);(try clear c47b2);(try clear c48);(try clear c48b0);(try clear c48b1);(try clear c48b2);(try clear c49);(try clear c49b0);(try clear c49b1);(try clear c49b2);(try clear c50);(try clear c50b0);(try clear c50b1);(try clear c50b2);(try clear c51);(try clear c52);(try clear c53);(try clear c53b0);(try clear c53b1);(try clear c53b2);(try clear c54);(try clear c54b0);(try clear c54b1);(try clear c54b2);(try clear c55);(try clear c55b0);(try clear c55b1);(try clear c55b2);(try clear c56);(try clear c56b0);(try clear c56b1);(try clear c56b2)
  obtain ⟨kq, x228_17, rfl, HA, HJ17, HB⟩ := hcut
  cases kq with
  | zero => exact absurd HA.out (by simp [laws_FnLeastOfDigits.j0])
  | succ kj17 =>
   have H := HA.out
   clear HA
   simp only [laws_FnLeastOfDigits.j0] at H
   by_cases c57 : x228_17 = true
   · subst c57
     rw [if_pos rfl] at H
     as_aux_lemma =>
      exact dead2_ H hr_
   replace c57 := Bool.eq_false_iff.mpr c57
   subst c57
   rw [if_neg (show ¬ (false = true) by decide)] at H
   have HC58 := Aside0.mk H
   clear H
   go_upto_if 229 with (fail)
   repeat (go_quiet (fail); go_upto_if 229 with (fail))
   go_cut [] from 229 to 291 (fun wc => ∃ (kq : Nat), Aside0 (laws_FnLeastOfDigits.j1 kq l1 t408 t409 t410 t413 t414 = some r) ∧ Aside0 (kq ≤ kj17) ∧ Aside0 (Below w.heap.size w wc))
   case first =>
    as_aux_lemma =>
    have H := HC58.out
    clear HC58
    by_cases c59 : t418 = true
    · subst c59
      rw [if_pos rfl] at H
      by_cases c60 : t417 > t408
      · exact dead_ (if_pos c60) H hr_
      rw [if_neg c60] at H
      have c60b0 : decide (t408 < t417) = false := decide_eq_false c60
      clear c60
      (first | rw [c60b0] | (simp only [i64_w, i32_w]; rw [c60b0]) | skip)
      by_cases c61 : t421 < t408
      · exact dead_ (if_pos c61) H hr_
      rw [if_neg c61] at H
      have c61b0 : decide (t421 < t408) = false := decide_eq_false c61
      clear c61
      replace H := Option.bind_eq_some_iff.mp H
      obtain ⟨t437, A620, H⟩ := H
      have A62 := Aside0.mk A620
      clear A620
      replace H := Option.bind_eq_some_iff.mp H
      obtain ⟨t438, A630, H⟩ := H
      have A63 := Aside0.mk A630
      clear A630
      by_cases c64 : t437 = t438
      rotate_left
      · exact dead_ (if_neg c64) H hr_
      rw [if_pos c64] at H
      have c64b0 : (t437 == t438) = true := beq_iff_eq.mpr c64
      have c64b1 : (t437 != t438) = false := bne_eq_false_iff_eq.mpr c64
      have hne64_ := laws_iDigits.neq_ t437 t438 (laws_iDigits.len A62.out) (laws_iDigits.len A63.out)
      clear c64
      as_aux_lemma =>
      replace H := Option.bind_eq_some_iff.mp H
      obtain ⟨t439, A650, H⟩ := H
      have A65 := Aside0.mk A650
      clear A650
      replace H := Option.bind_eq_some_iff.mp H
      obtain ⟨t440, A660, H⟩ := H
      have A66 := Aside0.mk A660
      clear A660
      have hq_ := Option.some.inj (A63.out.symm.trans A66.out)
      subst hq_
      by_cases c67 : t439 = t438
      rotate_left
      · exact dead_ (if_neg c67) H hr_
      rw [if_pos c67] at H
      have c67b0 : (t439 == t438) = true := beq_iff_eq.mpr c67
      have c67b1 : (t439 != t438) = false := bne_eq_false_iff_eq.mpr c67
      have hne67_ := laws_iDigits.neq_ t439 t438 (laws_iDigits.len A65.out) (laws_iDigits.len A63.out)
      clear c67
      by_cases c68 : (t410 != (decide (t408 < t421))) = true
      · exact dead_ (if_pos c68) H hr_
      rw [if_neg c68] at H
      have c68b0 : (t410 != (decide (t408 < t421))) = false := by simpa using c68
      (try (have c68b1 : decide (t410 = (decide (t408 < t421))) = true := by simpa using c68))
      (try (have c68b2 : (t410 == (decide (t408 < t421))) = true := by simpa using c68))
      clear c68
      by_cases c69 : (t414 != (decide (t408 > t417))) = true
      · exact dead_ (if_pos c69) H hr_
      rw [if_neg c69] at H
      have c69b0 : (t414 != (decide (t408 > t417))) = false := by simpa using c69
      (try (have c69b1 : decide (t414 = (decide (t408 > t417))) = true := by simpa using c69))
      (try (have c69b2 : (t414 == (decide (t408 > t417))) = true := by simpa using c69))
      clear c69
      as_aux_lemma =>
      by_cases c70 : t425 < 0
      · exact dead_ (if_pos c70) H hr_
      rw [if_neg c70] at H
      have c70b0 : decide (t425 < 0) = false := decide_eq_false c70
      clear c70
      by_cases c71 : ((t429 == 0) != (decide (t408 < 10))) = true
      · exact dead_ (if_pos c71) H hr_
      rw [if_neg c71] at H
      have c71b0 : ((t429 == 0) != (decide (t408 < 10))) = false := by simpa using c71
      (try (have c71b1 : decide ((t429 == 0) = (decide (t408 < 10))) = true := by simpa using c71))
      (try (have c71b2 : ((t429 == 0) == (decide (t408 < 10))) = true := by simpa using c71))
      clear c71
      by_cases c72 : t408 ≥ 10
      · rw [if_pos c72] at H
        have c72b0 : decide (10 ≤ t408) = true := decide_eq_true c72
        clear c72
        replace H := Option.bind_eq_some_iff.mp H
        obtain ⟨⟨t441, t442⟩, A730, H⟩ := H
        dsimp only at H
        have A73 := Aside0.mk A730
        clear A730
        by_cases c74 : t442 = true
        · subst c74
          rw [if_pos rfl] at H
          by_cases c75 : t441 = (wrap64 (t429 - 1))
          rotate_left
          · exact dead_ (if_neg c75) H hr_
          rw [if_pos c75] at H
          have c75b0 : (t441 == (wrap64 (t429 - 1))) = true := beq_iff_eq.mpr c75
          have c75b1 : (t441 != (wrap64 (t429 - 1))) = false := bne_eq_false_iff_eq.mpr c75
          clear c75
          as_aux_lemma =>
           have H' := Aside0.mk H
           clear H
           go_wp2_with (first | (go_at_call 18; (with_reducible refine (laws_iDigits.calls kj17 t417 t437 _ A62.out).mono ?_); rintro e w76 ⟨rfl, hb⟩; have n0_ := Aside0.mk (below_step z12_0_ hb); clear HB; have HB := n0_; clear n0_; (try clear hb); (try clear hb2); (try clear hk); (try clear hi)) | (go_at_call 18; (with_reducible refine (laws_iDigits.calls kj17 t408 t438 _ A63.out).mono ?_); rintro e w77 ⟨rfl, hb⟩; have n0_ := Aside0.mk (below_step z12_0_ hb); clear HB; have HB := n0_; clear n0_; (try clear hb); (try clear hb2); (try clear hk); (try clear hi)) | (go_at_call 18; (with_reducible refine (laws_iDigits.calls kj17 t421 t439 _ A65.out).mono ?_); rintro e w78 ⟨rfl, hb⟩; have n0_ := Aside0.mk (below_step z12_0_ hb); clear HB; have HB := n0_; clear n0_; (try clear hb); (try clear hb2); (try clear hk); (try clear hi)) | (go_at_call 18; (with_reducible refine (laws_iDigits.calls kj17 t408 t438 _ A66.out).mono ?_); rintro e w79 ⟨rfl, hb⟩; have n0_ := Aside0.mk (below_step z12_0_ hb); clear HB; have HB := n0_; clear n0_; (try clear hb); (try clear hb2); (try clear hk); (try clear hi)) | (go_at_call 16; (with_reducible refine (impl_ProductSteps.calls kj17 t425 t441 true _ ?side1 A73.out).mono ?_); (case side1 => exact Shelf.TabOk.below HT.out z12_0_); rintro e w80 ⟨rfl, hb⟩; have n0_ := Aside0.mk (below_step z12_0_ hb); clear HB; have HB := n0_; clear n0_; (try clear hb); (try clear hb2); (try clear hk); (try clear hi)))
           repeat (go_quiet (fail); try go_wp2_with (first | (go_at_call 18; (with_reducible refine (laws_iDigits.calls kj17 t417 t437 _ A62.out).mono ?_); rintro e w76 ⟨rfl, hb⟩; have n0_ := Aside0.mk (below_step z12_0_ hb); clear HB; have HB := n0_; clear n0_; (try clear hb); (try clear hb2); (try clear hk); (try clear hi)) | (go_at_call 18; (with_reducible refine (laws_iDigits.calls kj17 t408 t438 _ A63.out).mono ?_); rintro e w77 ⟨rfl, hb⟩; have n0_ := Aside0.mk (below_step z12_0_ hb); clear HB; have HB := n0_; clear n0_; (try clear hb); (try clear hb2); (try clear hk); (try clear hi)) | (go_at_call 18; (with_reducible refine (laws_iDigits.calls kj17 t421 t439 _ A65.out).mono ?_); rintro e w78 ⟨rfl, hb⟩; have n0_ := Aside0.mk (below_step z12_0_ hb); clear HB; have HB := n0_; clear n0_; (try clear hb); (try clear hb2); (try clear hk); (try clear hi)) | (go_at_call 18; (with_reducible refine (laws_iDigits.calls kj17 t408 t438 _ A66.out).mono ?_); rintro e w79 ⟨rfl, hb⟩; have n0_ := Aside0.mk (below_step z12_0_ hb); clear HB; have HB := n0_; clear n0_; (try clear hb); (try clear hb2); (try clear hk); (try clear hi)) | (go_at_call 16; (with_reducible refine (impl_ProductSteps.calls kj17 t425 t441 true _ ?side1 A73.out).mono ?_); (case side1 => exact Shelf.TabOk.below HT.out z12_0_); rintro e w80 ⟨rfl, hb⟩; have n0_ := Aside0.mk (below_step z12_0_ hb); clear HB; have HB := n0_; clear n0_; (try clear hb); (try clear hb2); (try clear hk); (try clear hi))))
           try any_goals (exfalso; exact undef_bool_ (by with_reducible assumption))
           go_meet
           case rel => exact ⟨_, H', ⟨by have := HJ17.out; first | omega | exact Nat.le_refl _⟩, ⟨by repeat (first | (with_reducible first | exact HB.out | apply below_alloc | apply pw_below_drewN | apply below_drew1) | exact HB.out)⟩⟩
        replace c74 := Bool.eq_false_iff.mpr c74
        subst c74
        rw [if_neg (show ¬ (false = true) by decide)] at H
        as_aux_lemma =>
         exact dead2_ H hr_
      rw [if_neg c72] at H
      have c72b0 : decide (10 ≤ t408) = false := decide_eq_false c72
      clear c72
      as_aux_lemma =>
       have H' := Aside0.mk H
       clear H
       go_wp2_with (first | (go_at_call 18; (with_reducible refine (laws_iDigits.calls kj17 t417 t437 _ A62.out).mono ?_); rintro e w81 ⟨rfl, hb⟩; have n0_ := Aside0.mk (below_step z12_0_ hb); clear HB; have HB := n0_; clear n0_; (try clear hb); (try clear hb2); (try clear hk); (try clear hi)) | (go_at_call 18; (with_reducible refine (laws_iDigits.calls kj17 t408 t438 _ A63.out).mono ?_); rintro e w82 ⟨rfl, hb⟩; have n0_ := Aside0.mk (below_step z12_0_ hb); clear HB; have HB := n0_; clear n0_; (try clear hb); (try clear hb2); (try clear hk); (try clear hi)) | (go_at_call 18; (with_reducible refine (laws_iDigits.calls kj17 t421 t439 _ A65.out).mono ?_); rintro e w83 ⟨rfl, hb⟩; have n0_ := Aside0.mk (below_step z12_0_ hb); clear HB; have HB := n0_; clear n0_; (try clear hb); (try clear hb2); (try clear hk); (try clear hi)) | (go_at_call 18; (with_reducible refine (laws_iDigits.calls kj17 t408 t438 _ A66.out).mono ?_); rintro e w84 ⟨rfl, hb⟩; have n0_ := Aside0.mk (below_step z12_0_ hb); clear HB; have HB := n0_; clear n0_; (try clear hb); (try clear hb2); (try clear hk); (try clear hi)))
       repeat (go_quiet (fail); try go_wp2_with (first | (go_at_call 18; (with_reducible refine (laws_iDigits.calls kj17 t417 t437 _ A62.out).mono ?_); rintro e w81 ⟨rfl, hb⟩; have n0_ := Aside0.mk (below_step z12_0_ hb); clear HB; have HB := n0_; clear n0_; (try clear hb); (try clear hb2); (try clear hk); (try clear hi)) | (go_at_call 18; (with_reducible refine (laws_iDigits.calls kj17 t408 t438 _ A63.out).mono ?_); rintro e w82 ⟨rfl, hb⟩; have n0_ := Aside0.mk (below_step z12_0_ hb); clear HB; have HB := n0_; clear n0_; (try clear hb); (try clear hb2); (try clear hk); (try clear hi)) | (go_at_call 18; (with_reducible refine (laws_iDigits.calls kj17 t421 t439 _ A65.out).mono ?_); rintro e w83 ⟨rfl, hb⟩; have n0_ := Aside0.mk (below_step z12_0_ hb); clear HB; have HB := n0_; clear n0_; (try clear hb); (try clear hb2); (try clear hk); (try clear hi)) | (go_at_call 18; (with_reducible refine (laws_iDigits.calls kj17 t408 t438 _ A66.out).mono ?_); rintro e w84 ⟨rfl, hb⟩; have n0_ := Aside0.mk (below_step z12_0_ hb); clear HB; have HB := n0_; clear n0_; (try clear hb); (try clear hb2); (try clear hk); (try clear hi))))
       try any_goals (exfalso; exact undef_bool_ (by with_reducible assumption))
       go_meet
       case rel => exact ⟨_, H', ⟨by have := HJ17.out; first | omega | exact Nat.le_refl _⟩, ⟨by repeat (first | (with_reducible first | exact HB.out | apply below_alloc | apply pw_below_drewN | apply below_drew1) | exact HB.out)⟩⟩
    replace c59 := Bool.eq_false_iff.mpr c59
    subst c59
    rw [if_neg (show ¬ (false = true) by decide)] at H
    as_aux_lemma =>
     have H' := Aside0.mk H
     clear H
     go_wp2
     repeat (go_quiet (fail); try go_wp2)
     try any_goals (exfalso; exact undef_bool_ (by with_reducible assumption))
     go_meet
     case rel => exact ⟨_, H', ⟨by have := HJ17.out; first | omega | exact Nat.le_refl _⟩, ⟨by repeat (first | (with_reducible first | exact HB.out | apply below_alloc | apply pw_below_drewN | apply below_drew1) | exact HB.out)⟩⟩
   case rest =>
    as_aux_lemma =>
    clear HC58
    (try clear c1);(try clear p2);(try clear c3);(try clear c4);(try clear c5);(try clear c6);(try clear p6);(try clear c7);(try clear c32);(try clear c32b0);(try clear c32b1);(try clear c32b2);(try clear c33);(try clear c33b0);(try clear c33b1);(try clear c34);(try clear c34b0);(try clear c34b1);(try clear c34b2);(try clear c35);(try clear c35b0);(try clear c35b1);(try clear c36);(try clear c36b0);(try clear c36b1);(try clear c36b2);(try clear c37);(try clear c37b0);(try clear c37b1);(try clear c38);(try clear c38b0);(try clear c38b1);(try clear c38b2);(try clear c39);(try clear c39b0);(try clear c39b1);(try clear c40);(try clear c40b0);(try clear c40b1);(try clear c40b2);(try clear c41);(try clear c41b0);(try clear c41b1);(try clear c42);(try clear c42b0);(try clear c42b1);(try clear c42b2);(try clear c43);(try clear c43b0);(try clear c43b1);(try clear c44);(try clear c45);(try clear c46);(try clear c47);(try clear c47b0);(try clear c47b1);(try clear c47b2);(try clear c48);(try clear c48b0);(try clear c48b1);(try clear c48b2);(try clear c49);(try clear c49b0);(try clear c49b1);(try clear c49b2);(try clear c50);(try clear c50b0);(try clear c50b1);(try clear c50b2);(try clear c51);(try clear c52);(try clear c53);(try clear c53b0);(try clear c53b1);(try clear c53b2);(try clear c54);(try clear c54b0);(try clear c54b1);(try clear c54b2);(try clear c55);(try clear c55b0);(try clear c55b1);(try clear c55b2);(try clear c56);(try clear c56b0);(try clear c56b1);(try clear c56b2);(try clear c57);(try clear c59);(try clear c60);(try clear c60b0);(try clear c61);(try clear c61b0);(try clear c64);(try clear c64b0);(try clear c64b1);(try clear p64);(try clear c67);(try clear c67b0);(try clear c67b1);(try clear c68);(try clear c68b0);(try clear c68b1);(try clear c68b2);(try clear c69);(try clear c69b0);(try clear c69b1);(try clear c69b2);(try clear c70);(try clear c70b0);(try clear c71);(try clear c71b0);(try clear c71b1);(try clear c71b2);(try clear c72);(try clear c72b0);(try clear c74);(try clear c75);(try clear c75b0);(try clear c75b1);(try clear p2)
    obtain ⟨kq, HA, HJ57, HB⟩ := hcut
    cases kq with
    | zero => exact absurd HA.out (by simp [laws_FnLeastOfDigits.j1])
    | succ kj57 =>
     have H := HA.out
     clear HA
     simp only [laws_FnLeastOfDigits.j1] at H
     have HC85 := Aside0.mk H
     clear H
     go_upto_if 292 with (fail)
     repeat (go_quiet (fail); go_upto_if 292 with (fail))
     go_cut [] from 292 to 316 (fun wc => ∃ (kq : Nat), Aside0 (laws_FnLeastOfDigits.j2 kq l1 t408 t413 t414 = some r) ∧ Aside0 (kq ≤ kj57) ∧ Aside0 (Below w.heap.size w wc))
     case first =>
      as_aux_lemma =>
      have H := HC85.out
      clear HC85
      by_cases c86 : t410 = true
      · subst c86
        rw [if_pos rfl] at H
        replace H := Option.bind_eq_some_iff.mp H
        obtain ⟨⟨t443, t444⟩, A870, H⟩ := H
        dsimp only at H
        have A87 := Aside0.mk A870
        clear A870
        by_cases c88 : t409 ≤ t408
        · exact dead_ (if_pos c88) H hr_
        rw [if_neg c88] at H
        have c88b0 : decide (t409 ≤ t408) = false := decide_eq_false c88
        clear c88
        (first | rw [c88b0] | (simp only [i64_w, i32_w]; rw [c88b0]) | skip)
        replace H := Option.bind_eq_some_iff.mp H
        obtain ⟨t447, A890, H⟩ := H
        have A89 := Aside0.mk A890
        clear A890
        replace H := Option.bind_eq_some_iff.mp H
        obtain ⟨t448, A900, H⟩ := H
        have A90 := Aside0.mk A900
        clear A900
        by_cases c91 : t447 = t448
        rotate_left
        · exact dead_ (if_neg c91) H hr_
        rw [if_pos c91] at H
        have c91b0 : (t447 == t448) = true := beq_iff_eq.mpr c91
        have c91b1 : (t447 != t448) = false := bne_eq_false_iff_eq.mpr c91
        have hne91_ := laws_iDigits.neq_ t447 t448 (laws_iDigits.len A89.out) (laws_iDigits.len A90.out)
        clear c91
        as_aux_lemma =>
        by_cases c92 : t444 = true
        · subst c92
          rw [if_pos rfl] at H
          by_cases c93 : t443 = t408
          rotate_left
          · exact dead_ (if_neg c93) H hr_
          rw [if_pos c93] at H
          have c93b0 : (t443 == t408) = true := beq_iff_eq.mpr c93
          have c93b1 : (t443 != t408) = false := bne_eq_false_iff_eq.mpr c93
          clear c93
          as_aux_lemma =>
           have H' := Aside0.mk H
           clear H
           go_wp2_with (first | (go_at_call 8; (with_reducible refine (impl_LastSameDigits.calls kj57 t409 t443 true _ ?side1 A87.out).mono ?_); (case side1 => exact Shelf.TabOk.below HT.out z12_0_); rintro e w94 ⟨rfl, hb⟩; have n0_ := Aside0.mk (below_step z12_0_ hb); clear HB; have HB := n0_; clear n0_; (try clear hb); (try clear hb2); (try clear hk); (try clear hi)) | (go_at_call 18; (with_reducible refine (laws_iDigits.calls kj57 t409 t447 _ A89.out).mono ?_); rintro e w95 ⟨rfl, hb⟩; have n0_ := Aside0.mk (below_step z12_0_ hb); clear HB; have HB := n0_; clear n0_; (try clear hb); (try clear hb2); (try clear hk); (try clear hi)) | (go_at_call 18; (with_reducible refine (laws_iDigits.calls kj57 t408 t448 _ A90.out).mono ?_); rintro e w96 ⟨rfl, hb⟩; have n0_ := Aside0.mk (below_step z12_0_ hb); clear HB; have HB := n0_; clear n0_; (try clear hb); (try clear hb2); (try clear hk); (try clear hi)))
           repeat (go_quiet (fail); try go_wp2_with (first | (go_at_call 8; (with_reducible refine (impl_LastSameDigits.calls kj57 t409 t443 true _ ?side1 A87.out).mono ?_); (case side1 => exact Shelf.TabOk.below HT.out z12_0_); rintro e w94 ⟨rfl, hb⟩; have n0_ := Aside0.mk (below_step z12_0_ hb); clear HB; have HB := n0_; clear n0_; (try clear hb); (try clear hb2); (try clear hk); (try clear hi)) | (go_at_call 18; (with_reducible refine (laws_iDigits.calls kj57 t409 t447 _ A89.out).mono ?_); rintro e w95 ⟨rfl, hb⟩; have n0_ := Aside0.mk (below_step z12_0_ hb); clear HB; have HB := n0_; clear n0_; (try clear hb); (try clear hb2); (try clear hk); (try clear hi)) | (go_at_call 18; (with_reducible refine (laws_iDigits.calls kj57 t408 t448 _ A90.out).mono ?_); rintro e w96 ⟨rfl, hb⟩; have n0_ := Aside0.mk (below_step z12_0_ hb); clear HB; have HB := n0_; clear n0_; (try clear hb); (try clear hb2); (try clear hk); (try clear hi))))
           try any_goals (exfalso; exact undef_bool_ (by with_reducible assumption))
           go_meet
           case rel => exact ⟨_, H', ⟨by have := HJ17.out; have := HJ57.out; first | omega | exact Nat.le_refl _⟩, ⟨by repeat (first | (with_reducible first | exact HB.out | apply below_alloc | apply pw_below_drewN | apply below_drew1) | exact HB.out)⟩⟩
        replace c92 := Bool.eq_false_iff.mpr c92
        subst c92
        rw [if_neg (show ¬ (false = true) by decide)] at H
        as_aux_lemma =>
         exact dead2_ H hr_
      replace c86 := Bool.eq_false_iff.mpr c86
      subst c86
      rw [if_neg (show ¬ (false = true) by decide)] at H
      as_aux_lemma =>
       have H' := Aside0.mk H
       clear H
       go_wp2
       repeat (go_quiet (fail); try go_wp2)
       try any_goals (exfalso; exact undef_bool_ (by with_reducible assumption))
       go_meet
       case rel => exact ⟨_, H', ⟨by have := HJ17.out; have := HJ57.out; first | omega | exact Nat.le_refl _⟩, ⟨by repeat (first | (with_reducible first | exact HB.out | apply below_alloc | apply pw_below_drewN | apply below_drew1) | exact HB.out)⟩⟩
     case rest =>
      as_aux_lemma =>
      clear HC85
      (try clear c1);(try clear p2);(try clear c3);(try clear c4);(try clear c5);(try clear c6);(try clear p6);(try clear c7);(try clear c8);(try clear c9);(try clear c32);(try clear c32b0);(try clear c32b1);(try clear c32b2);(try clear c33);(try clear c33b0);(try clear c33b1);(try clear c34);(try clear c34b0);(try clear c34b1);(try clear c34b2);(try clear c35);(try clear c35b0);(try clear c35b1);(try clear c36);(try clear c36b0);(try clear c36b1);(try clear c36b2);(try clear c37);(try clear c37b0);(try clear c37b1);(try clear c38);(try clear c38b0);(try clear c38b1);(try clear c38b2);(try clear c39);(try clear c39b0);(try clear c39b1);(try clear c40);(try clear c40b0);(try clear c40b1);(try clear c40b2);(try clear c41);(try clear c41b0);(try clear c41b1);(try clear c42);(try clear c42b0);(try clear c42b1);(try clear c42b2);(try clear c43);(try clear c43b0);(try clear c43b1);(try clear c44);(try clear c45);(try clear c46);(try clear c47);(try clear c47b0);(try clear c47b1);(try clear c47b2);(try clear c48);(try clear c48b0);(try clear c48b1);(try clear c48b2);(try clear c49);(try clear c49b0);(try clear c49b1);(try clear c49b2);(try clear c50);(try clear c50b0);(try clear c50b1);(try clear c50b2);(try clear c51);(try clear c52);(try clear c53);(try clear c53b0);(try clear c53b1);(try clear c53b2);(try clear c54);(try clear c54b0);(try clear c54b1);(try clear c54b2);(try clear c55);(try clear c55b0);(try clear c55b1);(try clear c55b2);(try clear c56);(try clear c56b0);(try clear c56b1);(try clear c56b2);(try clear c57);(try clear c59);(try clear c60);(try clear c60b0);(try clear c61);(try clear c61b0);(try clear c64);(try clear c64b0);(try clear c64b1);(try clear p64);(try clear c67);(try clear c67b0);(try clear c67b1);(try clear c68);(try clear c68b0);(try clear c68b1);(try clear c68b2);(try clear c69);(try clear c69b0);(try clear c69b1);(try clear c69b2);(try clear c70);(try clear c70b0);(try clear c71);(try clear c71b0);(try clear c71b1);(try clear c71b2);(try clear c72);(try clear c72b0);(try clear c74);(try clear c75);(try clear c75b0);(try clear c75b1);(try clear c86);(try clear c88);(try clear c88b0);(try clear c91);(try clear c91b0);(try clear c91b1);(try clear c92);(try clear c93);(try clear c93b0);(try clear c93b1);(try clear p2);(try clear p6);(try clear p64)
      obtain ⟨kq, HA, HJ84, HB⟩ := hcut
      cases kq with
      | zero => exact absurd HA.out (by simp [laws_FnLeastOfDigits.j2])
      | succ kj84 =>
       have H := HA.out
       clear HA
       simp only [laws_FnLeastOfDigits.j2] at H
       have HC97 := Aside0.mk H
       clear H
       go_upto_if 317 with (fail)
       repeat (go_quiet (fail); go_upto_if 317 with (fail))
       go_cut [] from 317 to 341 (fun wc => ∃ (kq : Nat), Aside0 (laws_FnLeastOfDigits.j3 kq l1 = some r) ∧ Aside0 (kq ≤ kj84) ∧ Aside0 (Below w.heap.size w wc))
       case first =>
        as_aux_lemma =>
        have H := HC97.out
        clear HC97
        by_cases c98 : t414 = true
        · subst c98
          rw [if_pos rfl] at H
          replace H := Option.bind_eq_some_iff.mp H
          obtain ⟨⟨t449, t450⟩, A990, H⟩ := H
          dsimp only at H
          have A99 := Aside0.mk A990
          clear A990
          by_cases c100 : t413 ≥ t408
          · exact dead_ (if_pos c100) H hr_
          rw [if_neg c100] at H
          have c100b0 : decide (t408 ≤ t413) = false := decide_eq_false c100
          clear c100
          (first | rw [c100b0] | (simp only [i64_w, i32_w]; rw [c100b0]) | skip)
          replace H := Option.bind_eq_some_iff.mp H
          obtain ⟨t453, A1010, H⟩ := H
          have A101 := Aside0.mk A1010
          clear A1010
          replace H := Option.bind_eq_some_iff.mp H
          obtain ⟨t454, A1020, H⟩ := H
          have A102 := Aside0.mk A1020
          clear A1020
          by_cases c103 : t453 = t454
          rotate_left
          · exact dead_ (if_neg c103) H hr_
          rw [if_pos c103] at H
          have c103b0 : (t453 == t454) = true := beq_iff_eq.mpr c103
          have c103b1 : (t453 != t454) = false := bne_eq_false_iff_eq.mpr c103
          have hne103_ := laws_iDigits.neq_ t453 t454 (laws_iDigits.len A101.out) (laws_iDigits.len A102.out)
          clear c103
          as_aux_lemma =>
          by_cases c104 : t450 = true
          · subst c104
            rw [if_pos rfl] at H
            by_cases c105 : t449 = t408
            rotate_left
            · exact dead_ (if_neg c105) H hr_
            rw [if_pos c105] at H
            have c105b0 : (t449 == t408) = true := beq_iff_eq.mpr c105
            have c105b1 : (t449 != t408) = false := bne_eq_false_iff_eq.mpr c105
            clear c105
            as_aux_lemma =>
             have H' := Aside0.mk H
             clear H
             go_wp2_with (first | (go_at_call 6; (with_reducible refine (impl_NextSameDigits.calls kj84 t413 t449 true _ ?side1 A99.out).mono ?_); (case side1 => exact Shelf.TabOk.below HT.out z12_0_); rintro e w106 ⟨rfl, hb⟩; have n0_ := Aside0.mk (below_step z12_0_ hb); clear HB; have HB := n0_; clear n0_; (try clear hb); (try clear hb2); (try clear hk); (try clear hi)) | (go_at_call 18; (with_reducible refine (laws_iDigits.calls kj84 t413 t453 _ A101.out).mono ?_); rintro e w107 ⟨rfl, hb⟩; have n0_ := Aside0.mk (below_step z12_0_ hb); clear HB; have HB := n0_; clear n0_; (try clear hb); (try clear hb2); (try clear hk); (try clear hi)) | (go_at_call 18; (with_reducible refine (laws_iDigits.calls kj84 t408 t454 _ A102.out).mono ?_); rintro e w108 ⟨rfl, hb⟩; have n0_ := Aside0.mk (below_step z12_0_ hb); clear HB; have HB := n0_; clear n0_; (try clear hb); (try clear hb2); (try clear hk); (try clear hi)))
             repeat (go_quiet (fail); try go_wp2_with (first | (go_at_call 6; (with_reducible refine (impl_NextSameDigits.calls kj84 t413 t449 true _ ?side1 A99.out).mono ?_); (case side1 => exact Shelf.TabOk.below HT.out z12_0_); rintro e w106 ⟨rfl, hb⟩; have n0_ := Aside0.mk (below_step z12_0_ hb); clear HB; have HB := n0_; clear n0_; (try clear hb); (try clear hb2); (try clear hk); (try clear hi)) | (go_at_call 18; (with_reducible refine (laws_iDigits.calls kj84 t413 t453 _ A101.out).mono ?_); rintro e w107 ⟨rfl, hb⟩; have n0_ := Aside0.mk (below_step z12_0_ hb); clear HB; have HB := n0_; clear n0_; (try clear hb); (try clear hb2); (try clear hk); (try clear hi)) | (go_at_call 18; (with_reducible refine (laws_iDigits.calls kj84 t408 t454 _ A102.out).mono ?_); rintro e w108 ⟨rfl, hb⟩; have n0_ := Aside0.mk (below_step z12_0_ hb); clear HB; have HB := n0_; clear n0_; (try clear hb); (try clear hb2); (try clear hk); (try clear hi))))
             try any_goals (exfalso; exact undef_bool_ (by with_reducible assumption))
             go_meet
             case rel => exact ⟨_, H', ⟨by have := HJ17.out; have := HJ57.out; have := HJ84.out; first | omega | exact Nat.le_refl _⟩, ⟨by repeat (first | (with_reducible first | exact HB.out | apply below_alloc | apply pw_below_drewN | apply below_drew1) | exact HB.out)⟩⟩
          replace c104 := Bool.eq_false_iff.mpr c104
          subst c104
          rw [if_neg (show ¬ (false = true) by decide)] at H
          as_aux_lemma =>
           exact dead2_ H hr_
        replace c98 := Bool.eq_false_iff.mpr c98
        subst c98
        rw [if_neg (show ¬ (false = true) by decide)] at H
        as_aux_lemma =>
         have H' := Aside0.mk H
         clear H
         go_wp2
         repeat (go_quiet (fail); try go_wp2)
         try any_goals (exfalso; exact undef_bool_ (by with_reducible assumption))
         go_meet
         case rel => exact ⟨_, H', ⟨by have := HJ17.out; have := HJ57.out; have := HJ84.out; first | omega | exact Nat.le_refl _⟩, ⟨by repeat (first | (with_reducible first | exact HB.out | apply below_alloc | apply pw_below_drewN | apply below_drew1) | exact HB.out)⟩⟩
       case rest =>
        as_aux_lemma =>
        clear HC97
        (try clear c1);(try clear p2);(try clear c3);(try clear c4);(try clear c5);(try clear c6);(try clear p6);(try clear c7);(try clear c8);(try clear c9);(try clear c10);(try clear c32);(try clear c32b0);(try clear c32b1);(try clear c32b2);(try clear c33);(try clear c33b0);(try clear c33b1);(try clear c34);(try clear c34b0);(try clear c34b1);(try clear c34b2);(try clear c35);(try clear c35b0);(try clear c35b1);(try clear c36);(try clear c36b0);(try clear c36b1);(try clear c36b2);(try clear c37);(try clear c37b0);(try clear c37b1);(try clear c38);(try clear c38b0);(try clear c38b1);(try clear c38b2);(try clear c39);(try clear c39b0);(try clear c39b1);(try clear c40);(try clear c40b0);(try clear c40b1);(try clear c40b2);(try clear c41);(try clear c41b0);(try clear c41b1);(try clear c42);(try clear c42b0);(try clear c42b1);(try clear c42b2);(try clear c43);(try clear c43b0);(try clear c43b1);(try clear c44);(try clear c45);(try clear c46);(try clear c47);(try clear c47b0);(try clear c47b1);(try clear c47b2);(try clear c48);(try clear c48b0);(try clear c48b1);(try clear c48b2);(try clear c49);(try clear c49b0);(try clear c49b1);(try clear c49b2);(try clear c50);(try clear c50b0);(try clear c50b1);(try clear c50b2);(try clear c51);(try clear c52);(try clear c53);(try clear c53b0);(try clear c53b1);(try clear c53b2);(try clear c54);(try clear c54b0);(try clear c54b1);(try clear c54b2);(try clear c55);(try clear c55b0);(try clear c55b1);(try clear c55b2);(try clear c56);(try clear c56b0);(try clear c56b1);(try clear c56b2);(try clear c57);(try clear c59);(try clear c60);(try clear c60b0);(try clear c61);(try clear c61b0);(try clear c64);(try clear c64b0);(try clear c64b1);(try clear p64);(try clear c67);(try clear c67b0);(try clear c67b1);(try clear c68);(try clear c68b0);(try clear c68b1);(try clear c68b2);(try clear c69);(try clear c69b0);(try clear c69b1);(try clear c69b2);(try clear c70);(try clear c70b0);(try clear c71);(try clear c71b0);(try clear c71b1);(try clear c71b2);(try clear c72);(try clear c72b0);(try clear c74);(try clear c75);(try clear c75b0);(try clear c75b1);(try clear c86);(try clear c88);(try clear c88b0);(try clear c91);(try clear c91b0);(try clear c91b1);(try clear c92);(try clear c93);(try clear c93b0);(try clear c93b1);(try clear c98);(try clear c100);(try clear c100b0);(try clear c103);(try clear c103b0);(try clear c103b1);(try clear c104);(try clear c105);(try clear c105b0);(try clear c105b1);(try clear p2);(try clear p6);(try clear p64)
        obtain ⟨kq, HA, HJ96, HB⟩ := hcut
        cases kq with
        | zero => exact absurd HA.out (by simp [laws_FnLeastOfDigits.j3])
        | succ kj96 =>
         have H := HA.out
         clear HA
         simp only [laws_FnLeastOfDigits.j3] at H
         replace H := Option.bind_eq_some_iff.mp H
         obtain ⟨t455, A1090, H⟩ := H
         have A109 := Aside0.mk A1090
         clear A1090
         replace H := Option.bind_eq_some_iff.mp H
         obtain ⟨⟨t456, t457⟩, A1100, H⟩ := H
         dsimp only at H
         have A110 := Aside0.mk A1100
         clear A1100
         replace H := Option.bind_eq_some_iff.mp H
         obtain ⟨⟨t458, t459⟩, A1110, H⟩ := H
         dsimp only at H
         have A111 := Aside0.mk A1110
         clear A1110
         replace H := Option.bind_eq_some_iff.mp H
         obtain ⟨⟨t460, t461⟩, A1120, H⟩ := H
         dsimp only at H
         have A112 := Aside0.mk A1120
         clear A1120
         replace H := Option.bind_eq_some_iff.mp H
         obtain ⟨⟨t462, t463⟩, A1130, H⟩ := H
         dsimp only at H
         have A113 := Aside0.mk A1130
         clear A1130
         as_aux_lemma =>
         replace H := Option.bind_eq_some_iff.mp H
         obtain ⟨⟨t464, t465⟩, A1140, H⟩ := H
         dsimp only at H
         have A114 := Aside0.mk A1140
         clear A1140
         replace H := Option.bind_eq_some_iff.mp H
         obtain ⟨t466, A1150, H⟩ := H
         have A115 := Aside0.mk A1150
         clear A1150
         replace H := Option.bind_eq_some_iff.mp H
         obtain ⟨⟨t467, t468⟩, A1160, H⟩ := H
         dsimp only at H
         have A116 := Aside0.mk A1160
         clear A1160
         replace H := Option.bind_eq_some_iff.mp H
         obtain ⟨⟨t469, t470⟩, A1170, H⟩ := H
         dsimp only at H
         have A117 := Aside0.mk A1170
         clear A1170
         replace H := Option.bind_eq_some_iff.mp H
         obtain ⟨⟨t471, t472⟩, A1180, H⟩ := H
         dsimp only at H
         have A118 := Aside0.mk A1180
         clear A1180
         replace H := Option.bind_eq_some_iff.mp H
         obtain ⟨⟨t473, t474⟩, A1190, H⟩ := H
         dsimp only at H
         have A119 := Aside0.mk A1190
         clear A1190
         as_aux_lemma =>
         replace H := Option.bind_eq_some_iff.mp H
         obtain ⟨⟨t475, t476⟩, A1200, H⟩ := H
         dsimp only at H
         have A120 := Aside0.mk A1200
         clear A1200
         replace H := Option.bind_eq_some_iff.mp H
         obtain ⟨⟨t477, t478⟩, A1210, H⟩ := H
         dsimp only at H
         have A121 := Aside0.mk A1210
         clear A1210
         replace H := Option.bind_eq_some_iff.mp H
         obtain ⟨⟨t479, t480⟩, A1220, H⟩ := H
         dsimp only at H
         have A122 := Aside0.mk A1220
         clear A1220
         have HC123 := Aside0.mk H
         clear H
         go_upto_region 47 with (first | (go_at_call 19; (with_reducible refine (spec_DrawLeastWithProduct.calls kj96 _ _ l1 t455 _ ?side1 ?side2 A109.out).mono ?_); (case side1 => repeat (first | exact (Kd.C_below HR1.out HB.out) | (with_reducible refine Kd.C_alloc ?_ _) | (with_reducible refine Kd.C_drewN ?_ _) | (with_reducible refine Kd.C_drew ?_))); (case side2 => exact HC1.out); rintro e w124 ⟨rfl, hb⟩; have n0_ := Aside0.mk (below_step z12_0_ hb); clear HB; have HB := n0_; clear n0_; (try clear hb); (try clear hb2); (try clear hk); (try clear hi)) | (go_at_call 20; (with_reducible refine (impl_LeastWithProduct.calls kj96 t455 t456 t457 _ A110.out).mono ?_); rintro e w125 ⟨rfl, hb⟩; have n0_ := Aside0.mk (below_step z12_0_ hb); clear HB; have HB := n0_; clear n0_; (try clear hb); (try clear hb2); (try clear hk); (try clear hi)) | (go_at_call 21; (with_reducible refine (spec_LeastWithProduct.calls kj96 t455 t458 t459 _ A111.out).mono ?_); rintro e w' ⟨rfl, ⟨nd, rfl⟩⟩; (try first | exact ⟨rfl, _, World.drewN_drewN _ _ _⟩ | exact ⟨rfl, _, Eq.trans (World.drewN_drewN _ _ _) (congrArg (World.drewN _) (Nat.add_assoc _ _ _))⟩)) | (go_at_call 22; (with_reducible refine (spec_DrawLeastMultiple.calls _ _ l1 t460 t461 _ ?side1 ?side2 A112.out).mono ?_); (case side1 => repeat (first | exact (Kd.C_below HR1.out z12_0_) | (with_reducible refine Kd.C_alloc ?_ _) | (with_reducible refine Kd.C_drewN ?_ _) | (with_reducible refine Kd.C_drew ?_))); (case side2 => exact HC1.out); rintro e w126 ⟨rfl, hb⟩; have n0_ := Aside0.mk (below_step z12_0_ hb); clear HB; have HB := n0_; clear n0_; (try clear hb); (try clear hb2); (try clear hk); (try clear hi)) | (go_at_call 23; (with_reducible refine (impl_LeastMultiple.calls kj96 t460 t461 t462 t463 _ A113.out).mono ?_); rintro e w127 ⟨rfl, hb⟩; have n0_ := Aside0.mk (below_step z12_0_ hb); clear HB; have HB := n0_; clear n0_; (try clear hb); (try clear hb2); (try clear hk); (try clear hi)) | (go_at_call 24; (with_reducible refine (spec_LeastMultiple.calls kj96 t460 t461 t464 t465 _ A114.out).mono ?_); rintro e w128 ⟨rfl, hb⟩; have n0_ := Aside0.mk (below_step z12_0_ hb); clear HB; have HB := n0_; clear n0_; (try clear hb); (try clear hb2); (try clear hk); (try clear hi)) | (go_at_call 25; (with_reducible refine (spec_DrawDigitsForMultiple.calls _ _ l1 t466 _ ?side1 ?side2 A115.out).mono ?_); (case side1 => repeat (first | exact (Kd.C_below HR1.out HB.out) | (with_reducible refine Kd.C_alloc ?_ _) | (with_reducible refine Kd.C_drewN ?_ _) | (with_reducible refine Kd.C_drew ?_))); (case side2 => exact HC1.out); rintro e w129 ⟨rfl, hb⟩; have n0_ := Aside0.mk (below_step z12_0_ hb); clear HB; have HB := n0_; clear n0_; (try clear hb); (try clear hb2); (try clear hk); (try clear hi)) | (go_at_call 26; (with_reducible refine (impl_DigitsForMultiple.calls kj96 t466 t467 t468 _ A116.out).mono ?_); rintro e w130 ⟨rfl, hb⟩; have n0_ := Aside0.mk (below_step z12_0_ hb); clear HB; have HB := n0_; clear n0_; (try clear hb); (try clear hb2); (try clear hk); (try clear hi)) | (go_at_call 27; (with_reducible refine (spec_DigitsForMultiple.calls kj96 t466 t469 t470 _ A117.out).mono ?_); rintro e w131 ⟨rfl, hb⟩; have n0_ := Aside0.mk (below_step z12_0_ hb); clear HB; have HB := n0_; clear n0_; (try clear hb); (try clear hb2); (try clear hk); (try clear hi)) | (go_at_call 28; (with_reducible refine (impl_OnesFor.calls kj96 t466 t471 t472 _ A118.out).mono ?_); rintro e w132 ⟨rfl, hb⟩; have n0_ := Aside0.mk (below_step z12_0_ hb); clear HB; have HB := n0_; clear n0_; (try clear hb); (try clear hb2); (try clear hk); (try clear hi)) | (go_at_call 29; (with_reducible refine (spec_OnesFor.calls kj96 t466 t473 t474 _ A119.out).mono ?_); rintro e w133 ⟨rfl, hb⟩; have n0_ := Aside0.mk (below_step z12_0_ hb); clear HB; have HB := n0_; clear n0_; (try clear hb); (try clear hb2); (try clear hk); (try clear hi)) | (go_at_call 30; (with_reducible refine (spec_DrawRestOfOnes.calls _ _ l1 t475 t476 _ ?side1 ?side2 A120.out).mono ?_); (case side1 => repeat (first | exact (Kd.C_below HR1.out HB.out) | (with_reducible refine Kd.C_alloc ?_ _) | (with_reducible refine Kd.C_drewN ?_ _) | (with_reducible refine Kd.C_drew ?_))); (case side2 => exact HC1.out); rintro e w134 ⟨rfl, hb⟩; have n0_ := Aside0.mk (below_step z12_0_ hb); clear HB; have HB := n0_; clear n0_; (try clear hb); (try clear hb2); (try clear hk); (try clear hi)) | (go_at_call 31; (with_reducible refine (impl_RestOfOnes.calls kj96 t475 t476 t477 t478 _ A121.out).mono ?_); rintro e w' ⟨rfl, ⟨nd, rfl⟩⟩; (try first | exact ⟨rfl, _, World.drewN_drewN _ _ _⟩ | exact ⟨rfl, _, Eq.trans (World.drewN_drewN _ _ _) (congrArg (World.drewN _) (Nat.add_assoc _ _ _))⟩)) | (go_at_call 32; (with_reducible refine (spec_RestOfOnes.calls kj96 t475 t476 t479 t480 _ A122.out).mono ?_); rintro e w' ⟨rfl, ⟨nd, rfl⟩⟩; (try first | exact ⟨rfl, _, World.drewN_drewN _ _ _⟩ | exact ⟨rfl, _, Eq.trans (World.drewN_drewN _ _ _) (congrArg (World.drewN _) (Nat.add_assoc _ _ _))⟩)))
         repeat (go_quiet (fail); go_upto_region 47 with (first | (go_at_call 19; (with_reducible refine (spec_DrawLeastWithProduct.calls kj96 _ _ l1 t455 _ ?side1 ?side2 A109.out).mono ?_); (case side1 => repeat (first | exact (Kd.C_below HR1.out HB.out) | (with_reducible refine Kd.C_alloc ?_ _) | (with_reducible refine Kd.C_drewN ?_ _) | (with_reducible refine Kd.C_drew ?_))); (case side2 => exact HC1.out); rintro e w124 ⟨rfl, hb⟩; have n0_ := Aside0.mk (below_step z12_0_ hb); clear HB; have HB := n0_; clear n0_; (try clear hb); (try clear hb2); (try clear hk); (try clear hi)) | (go_at_call 20; (with_reducible refine (impl_LeastWithProduct.calls kj96 t455 t456 t457 _ A110.out).mono ?_); rintro e w125 ⟨rfl, hb⟩; have n0_ := Aside0.mk (below_step z12_0_ hb); clear HB; have HB := n0_; clear n0_; (try clear hb); (try clear hb2); (try clear hk); (try clear hi)) | (go_at_call 21; (with_reducible refine (spec_LeastWithProduct.calls kj96 t455 t458 t459 _ A111.out).mono ?_); rintro e w' ⟨rfl, ⟨nd, rfl⟩⟩; (try first | exact ⟨rfl, _, World.drewN_drewN _ _ _⟩ | exact ⟨rfl, _, Eq.trans (World.drewN_drewN _ _ _) (congrArg (World.drewN _) (Nat.add_assoc _ _ _))⟩)) | (go_at_call 22; (with_reducible refine (spec_DrawLeastMultiple.calls _ _ l1 t460 t461 _ ?side1 ?side2 A112.out).mono ?_); (case side1 => repeat (first | exact (Kd.C_below HR1.out z12_0_) | (with_reducible refine Kd.C_alloc ?_ _) | (with_reducible refine Kd.C_drewN ?_ _) | (with_reducible refine Kd.C_drew ?_))); (case side2 => exact HC1.out); rintro e w126 ⟨rfl, hb⟩; have n0_ := Aside0.mk (below_step z12_0_ hb); clear HB; have HB := n0_; clear n0_; (try clear hb); (try clear hb2); (try clear hk); (try clear hi)) | (go_at_call 23; (with_reducible refine (impl_LeastMultiple.calls kj96 t460 t461 t462 t463 _ A113.out).mono ?_); rintro e w127 ⟨rfl, hb⟩; have n0_ := Aside0.mk (below_step z12_0_ hb); clear HB; have HB := n0_; clear n0_; (try clear hb); (try clear hb2); (try clear hk); (try clear hi)) | (go_at_call 24; (with_reducible refine (spec_LeastMultiple.calls kj96 t460 t461 t464 t465 _ A114.out).mono ?_); rintro e w128 ⟨rfl, hb⟩; have n0_ := Aside0.mk (below_step z12_0_ hb); clear HB; have HB := n0_; clear n0_; (try clear hb); (try clear hb2); (try clear hk); (try clear hi)) | (go_at_call 25; (with_reducible refine (spec_DrawDigitsForMultiple.calls _ _ l1 t466 _ ?side1 ?side2 A115.out).mono ?_); (case side1 => repeat (first | exact (Kd.C_below HR1.out HB.out) | (with_reducible refine Kd.C_alloc ?_ _) | (with_reducible refine Kd.C_drewN ?_ _) | (with_reducible refine Kd.C_drew ?_))); (case side2 => exact HC1.out); rintro e w129 ⟨rfl, hb⟩; have n0_ := Aside0.mk (below_step z12_0_ hb); clear HB; have HB := n0_; clear n0_; (try clear hb); (try clear hb2); (try clear hk); (try clear hi)) | (go_at_call 26; (with_reducible refine (impl_DigitsForMultiple.calls kj96 t466 t467 t468 _ A116.out).mono ?_); rintro e w130 ⟨rfl, hb⟩; have n0_ := Aside0.mk (below_step z12_0_ hb); clear HB; have HB := n0_; clear n0_; (try clear hb); (try clear hb2); (try clear hk); (try clear hi)) | (go_at_call 27; (with_reducible refine (spec_DigitsForMultiple.calls kj96 t466 t469 t470 _ A117.out).mono ?_); rintro e w131 ⟨rfl, hb⟩; have n0_ := Aside0.mk (below_step z12_0_ hb); clear HB; have HB := n0_; clear n0_; (try clear hb); (try clear hb2); (try clear hk); (try clear hi)) | (go_at_call 28; (with_reducible refine (impl_OnesFor.calls kj96 t466 t471 t472 _ A118.out).mono ?_); rintro e w132 ⟨rfl, hb⟩; have n0_ := Aside0.mk (below_step z12_0_ hb); clear HB; have HB := n0_; clear n0_; (try clear hb); (try clear hb2); (try clear hk); (try clear hi)) | (go_at_call 29; (with_reducible refine (spec_OnesFor.calls kj96 t466 t473 t474 _ A119.out).mono ?_); rintro e w133 ⟨rfl, hb⟩; have n0_ := Aside0.mk (below_step z12_0_ hb); clear HB; have HB := n0_; clear n0_; (try clear hb); (try clear hb2); (try clear hk); (try clear hi)) | (go_at_call 30; (with_reducible refine (spec_DrawRestOfOnes.calls _ _ l1 t475 t476 _ ?side1 ?side2 A120.out).mono ?_); (case side1 => repeat (first | exact (Kd.C_below HR1.out HB.out) | (with_reducible refine Kd.C_alloc ?_ _) | (with_reducible refine Kd.C_drewN ?_ _) | (with_reducible refine Kd.C_drew ?_))); (case side2 => exact HC1.out); rintro e w134 ⟨rfl, hb⟩; have n0_ := Aside0.mk (below_step z12_0_ hb); clear HB; have HB := n0_; clear n0_; (try clear hb); (try clear hb2); (try clear hk); (try clear hi)) | (go_at_call 31; (with_reducible refine (impl_RestOfOnes.calls kj96 t475 t476 t477 t478 _ A121.out).mono ?_); rintro e w' ⟨rfl, ⟨nd, rfl⟩⟩; (try first | exact ⟨rfl, _, World.drewN_drewN _ _ _⟩ | exact ⟨rfl, _, Eq.trans (World.drewN_drewN _ _ _) (congrArg (World.drewN _) (Nat.add_assoc _ _ _))⟩)) | (go_at_call 32; (with_reducible refine (spec_RestOfOnes.calls kj96 t475 t476 t479 t480 _ A122.out).mono ?_); rintro e w' ⟨rfl, ⟨nd, rfl⟩⟩; (try first | exact ⟨rfl, _, World.drewN_drewN _ _ _⟩ | exact ⟨rfl, _, Eq.trans (World.drewN_drewN _ _ _) (congrArg (World.drewN _) (Nat.add_assoc _ _ _))⟩))))
         (try simp only [Act.put, List.setIfInBounds_toArray, List.set_cons_zero, List.set_cons_succ])
         go_cut [464] from 342 to 464 (fun v464 wc => ∃ (kq : Nat) (x464_122 : Bool), v464 = .bool x464_122 ∧ Aside0 (laws_FnLeastOfDigits.j4 kq t455 t456 t457 t460 t461 t462 t463 t466 t467 t468 t471 t472 t475 t476 t477 t478 x464_122 = some r) ∧ Aside0 (kq ≤ kj96) ∧ Aside0 (Below w.heap.size w wc))
         case first =>
          as_aux_lemma =>
          have H := HC123.out
          clear HC123
          by_cases c135 : (t457 != t459) = true
          · exact laws_FnLeastOfDigits.j4_dead ((if_pos c135).symm.trans H) hr_
          rw [if_neg c135] at H
          have c135b0 : (t457 != t459) = false := by simpa using c135
          (try (have c135b1 : decide (t457 = t459) = true := by simpa using c135))
          (try (have c135b2 : (t457 == t459) = true := by simpa using c135))
          clear c135
          (first | rw [c135b0] | (simp only [i64_w, i32_w]; rw [c135b0]) | skip)
          by_cases c136 : t456 = t458
          rotate_left
          · exact laws_FnLeastOfDigits.j4_dead ((if_neg c136).symm.trans H) hr_
          rw [if_pos c136] at H
          have c136b0 : (t456 == t458) = true := beq_iff_eq.mpr c136
          have c136b1 : (t456 != t458) = false := bne_eq_false_iff_eq.mpr c136
          clear c136
          by_cases c137 : (t463 != t465) = true
          · exact laws_FnLeastOfDigits.j4_dead ((if_pos c137).symm.trans H) hr_
          rw [if_neg c137] at H
          have c137b0 : (t463 != t465) = false := by simpa using c137
          (try (have c137b1 : decide (t463 = t465) = true := by simpa using c137))
          (try (have c137b2 : (t463 == t465) = true := by simpa using c137))
          clear c137
          by_cases c138 : t462.toList = t464.toList
          rotate_left
          · exact laws_FnLeastOfDigits.j4_dead ((if_neg c138).symm.trans H) hr_
          rw [if_pos c138] at H
          have c138b0 : (t462.toList == t464.toList) = true := beq_iff_eq.mpr c138
          have c138b1 : (t462.toList != t464.toList) = false := bne_eq_false_iff_eq.mpr c138
          clear c138
          as_aux_lemma =>
          by_cases c139 : (t468 != t470) = true
          · exact laws_FnLeastOfDigits.j4_dead ((if_pos c139).symm.trans H) hr_
          rw [if_neg c139] at H
          have c139b0 : (t468 != t470) = false := by simpa using c139
          (try (have c139b1 : decide (t468 = t470) = true := by simpa using c139))
          (try (have c139b2 : (t468 == t470) = true := by simpa using c139))
          clear c139
          by_cases c140 : t467.toList = t469.toList
          rotate_left
          · exact laws_FnLeastOfDigits.j4_dead ((if_neg c140).symm.trans H) hr_
          rw [if_pos c140] at H
          have c140b0 : (t467.toList == t469.toList) = true := beq_iff_eq.mpr c140
          have c140b1 : (t467.toList != t469.toList) = false := bne_eq_false_iff_eq.mpr c140
          clear c140
          by_cases c141 : (t472 != t474) = true
          · exact laws_FnLeastOfDigits.j4_dead ((if_pos c141).symm.trans H) hr_
          rw [if_neg c141] at H
          have c141b0 : (t472 != t474) = false := by simpa using c141
          (try (have c141b1 : decide (t472 = t474) = true := by simpa using c141))
          (try (have c141b2 : (t472 == t474) = true := by simpa using c141))
          clear c141
          by_cases c142 : t471 = t473
          rotate_left
          · exact laws_FnLeastOfDigits.j4_dead ((if_neg c142).symm.trans H) hr_
          rw [if_pos c142] at H
          have c142b0 : (t471 == t473) = true := beq_iff_eq.mpr c142
          have c142b1 : (t471 != t473) = false := bne_eq_false_iff_eq.mpr c142
          clear c142
          as_aux_lemma =>
          by_cases c143 : (t478 != t480) = true
          · exact laws_FnLeastOfDigits.j4_dead ((if_pos c143).symm.trans H) hr_
          rw [if_neg c143] at H
          have c143b0 : (t478 != t480) = false := by simpa using c143
          (try (have c143b1 : decide (t478 = t480) = true := by simpa using c143))
          (try (have c143b2 : (t478 == t480) = true := by simpa using c143))
          clear c143
          by_cases c144 : t477 = t479
          rotate_left
          · exact laws_FnLeastOfDigits.j4_dead ((if_neg c144).symm.trans H) hr_
          rw [if_pos c144] at H
          have c144b0 : (t477 == t479) = true := beq_iff_eq.mpr c144
          have c144b1 : (t477 != t479) = false := bne_eq_false_iff_eq.mpr c144
          clear c144
          by_cases c145 : t472 = true
          · subst c145
            rw [if_pos rfl] at H
            as_aux_lemma =>
             have H' := Aside0.mk H
             clear H
             go_wp2
             repeat (go_quiet (fail); try go_wp2)
             try any_goals (exfalso; exact undef_bool_ (by with_reducible assumption))
             go_meet
             case rel => exact ⟨_, (!t468), z12_1_, H', ⟨by have := HJ17.out; have := HJ57.out; have := HJ84.out; have := HJ96.out; first | omega | exact Nat.le_refl _⟩, ⟨by repeat (first | (with_reducible first | exact HB.out | apply below_alloc | apply pw_below_drewN | apply below_drew1) | exact HB.out)⟩⟩
          replace c145 := Bool.eq_false_iff.mpr c145
          subst c145
          rw [if_neg (show ¬ (false = true) by decide)] at H
          as_aux_lemma =>
           have H' := Aside0.mk H
           clear H
           go_wp2
           repeat (go_quiet (fail); try go_wp2)
           try any_goals (exfalso; exact undef_bool_ (by with_reducible assumption))
           go_meet
           case rel => exact ⟨_, (false), z12_1_, H', ⟨by have := HJ17.out; have := HJ57.out; have := HJ84.out; have := HJ96.out; first | omega | exact Nat.le_refl _⟩, ⟨by repeat (first | (with_reducible first | exact HB.out | apply below_alloc | apply pw_below_drewN | apply below_drew1) | exact HB.out)⟩⟩
         case rest =>
          as_aux_lemma =>
          clear HC123
          (try clear c1);(try clear p2);(try clear c3);(try clear c4);(try clear c5);(try clear c6);(try clear p6);(try clear c7);(try clear c8);(try clear c9);(try clear c10);(try clear c13);(try clear c14);(try clear c32);(try clear c32b0);(try clear c32b1);(try clear c32b2);(try clear c33);(try clear c33b0);(try clear c33b1);(try clear c34);(try clear c34b0);(try clear c34b1);(try clear c34b2);(try clear c35);(try clear c35b0);(try clear c35b1);(try clear c36);(try clear c36b0);(try clear c36b1);(try clear c36b2);(try clear c37);(try clear c37b0);(try clear c37b1);(try clear c38);(try clear c38b0);(try clear c38b1);(try clear c38b2);(try clear c39);(try clear c39b0);(try clear c39b1);(try clear c40);(try clear c40b0);(try clear c40b1);(try clear c40b2);(try clear c41);(try clear c41b0);(try clear c41b1);(try clear c42);(try clear c42b0);(try clear c42b1);(try clear c42b2);(try clear c43);(try clear c43b0);(try clear c43b1);(try clear c44);(try clear c45);(try clear c46);(try clear c47);(try clear c47b0);(try clear c47b1);(try clear c47b2);(try clear c48);(try clear c48b0);(try clear c48b1);(try clear c48b2);(try clear c49);(try clear c49b0);(try clear c49b1);(try clear c49b2);(try clear c50);(try clear c50b0);(try clear c50b1);(try clear c50b2);(try clear c51);(try clear c52);(try clear c53);(try clear c53b0);(try clear c53b1);(try clear c53b2);(try clear c54);(try clear c54b0);(try clear c54b1);(try clear c54b2);(try clear c55);(try clear c55b0);(try clear c55b1);(try clear c55b2);(try clear c56);(try clear c56b0);(try clear c56b1);(try clear c56b2);(try clear c57);(try clear c59);(try clear c60);(try clear c60b0);(try clear c61);(try clear c61b0);(try clear c64);(try clear c64b0);(try clear c64b1);(try clear p64);(try clear c67);(try clear c67b0);(try clear c67b1);(try clear c68);(try clear c68b0);(try clear c68b1);(try clear c68b2);(try clear c69);(try clear c69b0);(try clear c69b1);(try clear c69b2);(try clear c70);(try clear c70b0);(try clear c71);(try clear c71b0);(try clear c71b1);(try clear c71b2);(try clear c72);(try clear c72b0);(try clear c74);(try clear c75);(try clear c75b0);(try clear c75b1);(try clear c86);(try clear c88);(try clear c88b0);(try clear c91);(try clear c91b0);(try clear c91b1);(try clear c92);(try clear c93);(try clear c93b0);(try clear c93b1);(try clear c98);(try clear c100);(try clear c100b0);(try clear c103);(try clear c103b0);(try clear c103b1);(try clear c104);(try clear c105);(try clear c105b0);(try clear c105b1);(try clear c135);(try clear c135b0);(try clear c135b1);(try clear c135b2);(try clear c136);(try clear c136b0);(try clear c136b1);(try clear c137);(try clear c137b0);(try clear c137b1);(try clear c137b2);(try clear c138);(try clear c138b0);(try clear c138b1);(try clear c139);(try clear c139b0);(try clear c139b1);(try clear c139b2);(try clear c140);(try clear c140b0);(try clear c140b1);(try clear c141);(try clear c141b0);(try clear c141b1);(try clear c141b2);(try clear c142);(try clear c142b0);(try clear c142b1)
          (try clear c143);(try clear c143b0);(try clear c143b1);(try clear c143b2);(try clear c144);(try clear c144b0);(try clear c144b1);(try clear c145);(try clear p2);(try clear p6);(try clear p64)
          obtain ⟨kq, x464_122, rfl, HA, HJ122, HB⟩ := hcut
          cases kq with
          | zero => exact absurd HA.out (by simp [laws_FnLeastOfDigits.j4])
          | succ kj122 =>
           have H := HA.out
           clear HA
           simp only [laws_FnLeastOfDigits.j4] at H
           by_cases c146 : x464_122 = true
           · subst c146
             rw [if_pos rfl] at H
             as_aux_lemma =>
              exact dead2_ H hr_
           replace c146 := Bool.eq_false_iff.mpr c146
           subst c146
           rw [if_neg (show ¬ (false = true) by decide)] at H
           have HC147 := Aside0.mk H
           clear H
           go_upto_if 465 with (fail)
           repeat (go_quiet (fail); go_upto_if 465 with (fail))
           go_cut [] from 465 to 481 (fun wc => ∃ (kq : Nat), Aside0 (laws_FnLeastOfDigits.j5 kq t460 t461 t462 t463 t466 t467 t468 t471 t472 t475 t476 t477 t478 = some r) ∧ Aside0 (kq ≤ kj122) ∧ Aside0 (Below w.heap.size w wc))
           case first =>
            as_aux_lemma =>
            have H := HC147.out
            clear HC147
            by_cases c148 : t457 = true
            · subst c148
              rw [if_pos rfl] at H
              replace H := Option.bind_eq_some_iff.mp H
              obtain ⟨⟨t481, t482⟩, A1490, H⟩ := H
              dsimp only at H
              have A149 := Aside0.mk A1490
              clear A1490
              by_cases c150 : t456 < 1
              · exact dead_ (if_pos c150) H hr_
              rw [if_neg c150] at H
              have c150b0 : decide (t456 < 1) = false := decide_eq_false c150
              clear c150
              (first | rw [c150b0] | (simp only [i64_w, i32_w]; rw [c150b0]) | skip)
              by_cases c151 : t482 = true
              · subst c151
                rw [if_pos rfl] at H
                by_cases c152 : t481 = t455
                rotate_left
                · exact dead_ (if_neg c152) H hr_
                rw [if_pos c152] at H
                have c152b0 : (t481 == t455) = true := beq_iff_eq.mpr c152
                have c152b1 : (t481 != t455) = false := bne_eq_false_iff_eq.mpr c152
                clear c152
                as_aux_lemma =>
                 have H' := Aside0.mk H
                 clear H
                 go_wp2_with (first | (go_at_call 14; (with_reducible refine (impl_ProductOfDigits.calls kj122 t456 t481 true _ ?side1 A149.out).mono ?_); (case side1 => exact Shelf.TabOk.below HT.out z12_0_); rintro e w153 ⟨rfl, hb⟩; have n0_ := Aside0.mk (below_step z12_0_ hb); clear HB; have HB := n0_; clear n0_; (try clear hb); (try clear hb2); (try clear hk); (try clear hi)))
                 repeat (go_quiet (fail); try go_wp2_with (first | (go_at_call 14; (with_reducible refine (impl_ProductOfDigits.calls kj122 t456 t481 true _ ?side1 A149.out).mono ?_); (case side1 => exact Shelf.TabOk.below HT.out z12_0_); rintro e w153 ⟨rfl, hb⟩; have n0_ := Aside0.mk (below_step z12_0_ hb); clear HB; have HB := n0_; clear n0_; (try clear hb); (try clear hb2); (try clear hk); (try clear hi))))
                 try any_goals (exfalso; exact undef_bool_ (by with_reducible assumption))
                 go_meet
                 case rel => exact ⟨_, H', ⟨by have := HJ17.out; have := HJ57.out; have := HJ84.out; have := HJ96.out; have := HJ122.out; first | omega | exact Nat.le_refl _⟩, ⟨by repeat (first | (with_reducible first | exact HB.out | apply below_alloc | apply pw_below_drewN | apply below_drew1) | exact HB.out)⟩⟩
              replace c151 := Bool.eq_false_iff.mpr c151
              subst c151
              rw [if_neg (show ¬ (false = true) by decide)] at H
              as_aux_lemma =>
               exact dead2_ H hr_
            replace c148 := Bool.eq_false_iff.mpr c148
            subst c148
            rw [if_neg (show ¬ (false = true) by decide)] at H
            as_aux_lemma =>
             have H' := Aside0.mk H
             clear H
             go_wp2
             repeat (go_quiet (fail); try go_wp2)
             try any_goals (exfalso; exact undef_bool_ (by with_reducible assumption))
             go_meet
             case rel => exact ⟨_, H', ⟨by have := HJ17.out; have := HJ57.out; have := HJ84.out; have := HJ96.out; have := HJ122.out; first | omega | exact Nat.le_refl _⟩, ⟨by repeat (first | (with_reducible first | exact HB.out | apply below_alloc | apply pw_below_drewN | apply below_drew1) | exact HB.out)⟩⟩
           case rest =>
            as_aux_lemma =>
            clear HC147
            (try clear c1);(try clear p2);(try clear c3);(try clear c4);(try clear c5);(try clear c6);(try clear p6);(try clear c7);(try clear c8);(try clear c9);(try clear c10);(try clear c13);(try clear c14);(try clear c15);(try clear c32);(try clear c32b0);(try clear c32b1);(try clear c32b2);(try clear c33);(try clear c33b0);(try clear c33b1);(try clear c34);(try clear c34b0);(try clear c34b1);(try clear c34b2);(try clear c35);(try clear c35b0);(try clear c35b1);(try clear c36);(try clear c36b0);(try clear c36b1);(try clear c36b2);(try clear c37);(try clear c37b0);(try clear c37b1);(try clear c38);(try clear c38b0);(try clear c38b1);(try clear c38b2);(try clear c39);(try clear c39b0);(try clear c39b1);(try clear c40);(try clear c40b0);(try clear c40b1);(try clear c40b2);(try clear c41);(try clear c41b0);(try clear c41b1);(try clear c42);(try clear c42b0);(try clear c42b1);(try clear c42b2);(try clear c43);(try clear c43b0);(try clear c43b1);(try clear c44);(try clear c45);(try clear c46);(try clear c47);(try clear c47b0);(try clear c47b1);(try clear c47b2);(try clear c48);(try clear c48b0);(try clear c48b1);(try clear c48b2);(try clear c49);(try clear c49b0);(try clear c49b1);(try clear c49b2);(try clear c50);(try clear c50b0);(try clear c50b1);(try clear c50b2);(try clear c51);(try clear c52);(try clear c53);(try clear c53b0);(try clear c53b1);(try clear c53b2);(try clear c54);(try clear c54b0);(try clear c54b1);(try clear c54b2);(try clear c55);(try clear c55b0);(try clear c55b1);(try clear c55b2);(try clear c56);(try clear c56b0);(try clear c56b1);(try clear c56b2);(try clear c57);(try clear c59);(try clear c60);(try clear c60b0);(try clear c61);(try clear c61b0);(try clear c64);(try clear c64b0);(try clear c64b1);(try clear p64);(try clear c67);(try clear c67b0);(try clear c67b1);(try clear c68);(try clear c68b0);(try clear c68b1);(try clear c68b2);(try clear c69);(try clear c69b0);(try clear c69b1);(try clear c69b2);(try clear c70);(try clear c70b0);(try clear c71);(try clear c71b0);(try clear c71b1);(try clear c71b2);(try clear c72);(try clear c72b0);(try clear c74);(try clear c75);(try clear c75b0);(try clear c75b1);(try clear c86);(try clear c88);(try clear c88b0);(try clear c91);(try clear c91b0);(try clear c91b1);(try clear c92);(try clear c93);(try clear c93b0);(try clear c93b1);(try clear c98);(try clear c100);(try clear c100b0);(try clear c103);(try clear c103b0);(try clear c103b1);(try clear c104);(try clear c105);(try clear c105b0);(try clear c105b1);(try clear c135);(try clear c135b0);(try clear c135b1);(try clear c135b2);(try clear c136);(try clear c136b0);(try clear c136b1);(try clear c137);(try clear c137b0);(try clear c137b1);(try clear c137b2);(try clear c138);(try clear c138b0);(try clear c138b1);(try clear c139);(try clear c139b0);(try clear c139b1);(try clear c139b2);(try clear c140);(try clear c140b0);(try clear c140b1);(try clear c141);(try clear c141b0);(try clear c141b1);(try clear c141b2);(try clear c142);(try clear c142b0)
            (try clear c142b1);(try clear c143);(try clear c143b0);(try clear c143b1);(try clear c143b2);(try clear c144);(try clear c144b0);(try clear c144b1);(try clear c145);(try clear c146);(try clear c148);(try clear c150);(try clear c150b0);(try clear c151);(try clear c152);(try clear c152b0);(try clear c152b1);(try clear p2);(try clear p6);(try clear p64)
            obtain ⟨kq, HA, HJ146, HB⟩ := hcut
            cases kq with
            | zero => exact absurd HA.out (by simp [laws_FnLeastOfDigits.j5])
            | succ kj146 =>
             have H := HA.out
             clear HA
             simp only [laws_FnLeastOfDigits.j5] at H
             have HC154 := Aside0.mk H
             clear H
             go_upto_if 482 with (fail)
             repeat (go_quiet (fail); go_upto_if 482 with (fail))
             go_cut [] from 482 to 532 (fun wc => ∃ (kq : Nat), Aside0 (laws_FnLeastOfDigits.j8 kq t466 t467 t468 t471 t472 t475 t476 t477 t478 = some r) ∧ Aside0 (kq ≤ kj146) ∧ Aside0 (Below w.heap.size w wc))
             case first =>
              as_aux_lemma =>
              have H := HC154.out
              clear HC154
              by_cases c155 : t463 = true
              · subst c155
                rw [if_pos rfl] at H
                have H' := Aside0.mk H
                clear H
                go_wp2
                repeat (go_quiet (fail); try go_wp2)
                have HBz := HB
                go_loopg [64] kj146 (fun kq v64 w' => ∃ (x64_7 : Int) (x484_7 : Int) (n484 : Nat), v64 = .int .i64 x64_7 ∧ Aside0 (x484_7 = (n484 : Int)) ∧ Aside0 (w'.heap[wc.heap.size]? = some (.stringIter t462 n484)) ∧ Aside0 (laws_FnLeastOfDigits.l0 kq t460 t461 t462 t466 t467 t468 t471 t472 t475 t476 t477 t478 x64_7 t462 x484_7 = some r) ∧ Aside0 (kq ≤ kj146) ∧ Aside0 (Below wc.heap.size wc w'))
                case atStart => exact ⟨(0), (0), 0, z12_1_, ⟨rfl⟩, ⟨World.iter_heap _ t462 0⟩, H', ⟨Nat.le_refl _⟩, ⟨by repeat (first | exact Below.refl _ _ | (with_reducible first | apply below_alloc | apply pw_below_drewN | apply below_drew1) | apply below_alloc)⟩⟩
                case round =>
                 clear H'
                 (try clear c1);(try clear p2);(try clear c3);(try clear c4);(try clear c5);(try clear c6);(try clear p6);(try clear c7);(try clear c8);(try clear c9);(try clear c10);(try clear c13);(try clear c14);(try clear c15);(try clear c32);(try clear c32b0);(try clear c32b1);(try clear c32b2);(try clear c33);(try clear c33b0);(try clear c33b1);(try clear c34);(try clear c34b0);(try clear c34b1);(try clear c34b2);(try clear c35);(try clear c35b0);(try clear c35b1);(try clear c36);(try clear c36b0);(try clear c36b1);(try clear c36b2);(try clear c37);(try clear c37b0);(try clear c37b1);(try clear c38);(try clear c38b0);(try clear c38b1);(try clear c38b2);(try clear c39);(try clear c39b0);(try clear c39b1);(try clear c40);(try clear c40b0);(try clear c40b1);(try clear c40b2);(try clear c41);(try clear c41b0);(try clear c41b1);(try clear c42);(try clear c42b0);(try clear c42b1);(try clear c42b2);(try clear c43);(try clear c43b0);(try clear c43b1);(try clear c44);(try clear c45);(try clear c46);(try clear c47);(try clear c47b0);(try clear c47b1);(try clear c47b2);(try clear c48);(try clear c48b0);(try clear c48b1);(try clear c48b2);(try clear c49);(try clear c49b0);(try clear c49b1);(try clear c49b2);(try clear c50);(try clear c50b0);(try clear c50b1);(try clear c50b2);(try clear c51);(try clear c52);(try clear c53);(try clear c53b0);(try clear c53b1);(try clear c53b2);(try clear c54);(try clear c54b0);(try clear c54b1);(try clear c54b2);(try clear c55);(try clear c55b0);(try clear c55b1);(try clear c55b2);(try clear c56);(try clear c56b0);(try clear c56b1);(try clear c56b2);(try clear c57);(try clear c59);(try clear c60);(try clear c60b0);(try clear c61);(try clear c61b0);(try clear c64);(try clear c64b0);(try clear c64b1);(try clear p64);(try clear c67);(try clear c67b0);(try clear c67b1);(try clear c68);(try clear c68b0);(try clear c68b1);(try clear c68b2);(try clear c69);(try clear c69b0);(try clear c69b1);(try clear c69b2);(try clear c70);(try clear c70b0);(try clear c71);(try clear c71b0);(try clear c71b1);(try clear c71b2);(try clear c72);(try clear c72b0);(try clear c74);(try clear c75);(try clear c75b0);(try clear c75b1);(try clear c86);(try clear c88);(try clear c88b0);(try clear c91);(try clear c91b0);(try clear c91b1);(try clear c92);(try clear c93);(try clear c93b0);(try clear c93b1);(try clear c98);(try clear c100);(try clear c100b0);(try clear c103);(try clear c103b0);(try clear c103b1);(try clear c104);(try clear c105);(try clear c105b0);(try clear c105b1);(try clear c135);(try clear c135b0);(try clear c135b1);(try clear c135b2);(try clear c136);(try clear c136b0);(try clear c136b1);(try clear c137);(try clear c137b0);(try clear c137b1);(try clear c137b2);(try clear c138);(try clear c138b0);(try clear c138b1);(try clear c139);(try clear c139b0);(try clear c139b1);(try clear c139b2);(try clear c140);(try clear c140b0);(try clear c140b1);(try clear c141);(try clear c141b0);(try clear c141b1);(try clear c141b2);(try clear c142);(try clear c142b0)
                 (try clear c142b1);(try clear c143);(try clear c143b0);(try clear c143b1);(try clear c143b2);(try clear c144);(try clear c144b0);(try clear c144b1);(try clear c145);(try clear c146);(try clear c148);(try clear c150);(try clear c150b0);(try clear c151);(try clear c152);(try clear c152b0);(try clear c152b1);(try clear c155);(try clear p2);(try clear p6);(try clear p64)
                 obtain ⟨x64_7, x484_7, n484, rfl, HN484, HI484, HA, HK7, HY484⟩ := hrel
                 cases gk with
                 | zero => exact absurd HA.out (by simp [laws_FnLeastOfDigits.l0])
                 | succ k7 =>
                  have H := HA.out
                  clear HA
                  simp only [laws_FnLeastOfDigits.l0] at H
                  by_cases c156 : x484_7 < (t462.size : Int)
                  · rw [if_pos c156] at H
                    have hc484 : n484 < t462.size := by have := HN484.out; omega
                    by_cases ca484 : bt t462 x484_7 < 128 ∧ x484_7 < 4611686018427387904
                    rotate_left
                    · exact none_ (if_neg ca484) H
                    rw [if_pos ca484] at H
                    have hs484 : n484 < 4611686018427387904 := by have := HN484.out; have := ca484.2; omega
                    have ha484 : (t462[n484]'hc484).toNat < 128 := by have h_ := ca484.1; rw [HN484.out, byte_ t462 n484 hc484] at h_; omega
                    have hnx484 := fun ty => Lib.run_next_ascii_at (P := Tryz.prog) wr wc.heap.size t462 n484 ty HI484.out hc484 ha484
                    rw [← HN484.out] at hnx484
                    have HY1 := Aside0.mk (Lib.below_iterAt HY484.out (Nat.le_refl _) t462 (n484 + 1))
                    have HI1 := Aside0.mk (Lib.iterAt_heap wr wc.heap.size t462 n484 (n484 + 1) HI484.out)
                    clear HY484 HI484 ca484 ha484
                    generalize wr.iterAt wc.heap.size t462 (n484 + 1) = wr1 at hnx484 HY1 HI1
                    have HY484 := HY1
                    have HI484 := HI1
                    clear HY1 HI1
                    have HS484 := Aside0.mk hs484
                    clear hs484
                    have HB := Aside0.mk (below_step HBz.out HY484.out)
                    have c156b0 : decide (x484_7 < (t462.size : Int)) = true := decide_eq_true c156
                    clear c156
                    (first | rw [c156b0] | (simp only [i64_w, i32_w]; rw [c156b0]) | skip)
                    have H' := Aside0.mk H
                    clear H
                    go_wp2
                    repeat (go_quiet (fail); try go_wp2)
                    go_loopg [66] k7 (fun kq v66 w' => ∃ (x66_8 : Bool) (x489_8 : Int) (n489 : Nat), v66 = .bool x66_8 ∧ Aside0 (x489_8 = (n489 : Int)) ∧ Aside0 (w'.heap[wr1.heap.size]? = some (.stringIter t461 n489)) ∧ Aside0 (laws_FnLeastOfDigits.l1 kq t460 t461 t462 t466 t467 t468 t471 t472 t475 t476 t477 t478 x64_7 x484_7 x66_8 t462 x484_7 t461 x489_8 = some r) ∧ Aside0 (kq ≤ k7) ∧ Aside0 (Below wr1.heap.size wr1 w'))
                    case atStart => exact ⟨(false), (0), 0, z12_1_, ⟨rfl⟩, ⟨World.iter_heap _ t461 0⟩, H', ⟨Nat.le_refl _⟩, ⟨by repeat (first | exact Below.refl _ _ | (with_reducible first | apply below_alloc | apply pw_below_drewN | apply below_drew1) | apply below_alloc)⟩⟩
                    case round =>
                     clear H'
                     (try clear c1);(try clear p2);(try clear c3);(try clear c4);(try clear c5);(try clear c6);(try clear p6);(try clear c7);(try clear c8);(try clear c9);(try clear c10);(try clear c13);(try clear c14);(try clear c15);(try clear c32);(try clear c32b0);(try clear c32b1);(try clear c32b2);(try clear c33);(try clear c33b0);(try clear c33b1);(try clear c34);(try clear c34b0);(try clear c34b1);(try clear c34b2);(try clear c35);(try clear c35b0);(try clear c35b1);(try clear c36);(try clear c36b0);(try clear c36b1);(try clear c36b2);(try clear c37);(try clear c37b0);(try clear c37b1);(try clear c38);(try clear c38b0);(try clear c38b1);(try clear c38b2);(try clear c39);(try clear c39b0);(try clear c39b1);(try clear c40);(try clear c40b0);(try clear c40b1);(try clear c40b2);(try clear c41);(try clear c41b0);(try clear c41b1);(try clear c42);(try clear c42b0);(try clear c42b1);(try clear c42b2);(try clear c43);(try clear c43b0);(try clear c43b1);(try clear c44);(try clear c45);(try clear c46);(try clear c47);(try clear c47b0);(try clear c47b1);(try clear c47b2);(try clear c48);(try clear c48b0);(try clear c48b1);(try clear c48b2);(try clear c49);(try clear c49b0);(try clear c49b1);(try clear c49b2);(try clear c50);(try clear c50b0);(try clear c50b1);(try clear c50b2);(try clear c51);(try clear c52);(try clear c53);(try clear c53b0);(try clear c53b1);(try clear c53b2);(try clear c54);(try clear c54b0);(try clear c54b1);(try clear c54b2);(try clear c55);(try clear c55b0);(try clear c55b1);(try clear c55b2);(try clear c56);(try clear c56b0);(try clear c56b1);(try clear c56b2);(try clear c57);(try clear c59);(try clear c60);(try clear c60b0);(try clear c61);(try clear c61b0);(try clear c64);(try clear c64b0);(try clear c64b1);(try clear p64);(try clear c67);(try clear c67b0);(try clear c67b1);(try clear c68);(try clear c68b0);(try clear c68b1);(try clear c68b2);(try clear c69);(try clear c69b0);(try clear c69b1);(try clear c69b2);(try clear c70);(try clear c70b0);(try clear c71);(try clear c71b0);(try clear c71b1);(try clear c71b2);(try clear c72);(try clear c72b0);(try clear c74);(try clear c75);(try clear c75b0);(try clear c75b1);(try clear c86);(try clear c88);(try clear c88b0);(try clear c91);(try clear c91b0);(try clear c91b1);(try clear c92);(try clear c93);(try clear c93b0);(try clear c93b1);(try clear c98);(try clear c100);(try clear c100b0);(try clear c103);(try clear c103b0);(try clear c103b1);(try clear c104);(try clear c105);(try clear c105b0);(try clear c105b1);(try clear c135);(try clear c135b0);(try clear c135b1);(try clear c135b2);(try clear c136);(try clear c136b0);(try clear c136b1);(try clear c137);(try clear c137b0);(try clear c137b1);(try clear c137b2);(try clear c138);(try clear c138b0);(try clear c138b1);(try clear c139);(try clear c139b0);(try clear c139b1);(try clear c139b2);(try clear c140);(try clear c140b0);(try clear c140b1);(try clear c141);(try clear c141b0);(try clear c141b1);(try clear c141b2);(try clear c142);(try clear c142b0)
                     (try clear c142b1);(try clear c143);(try clear c143b0);(try clear c143b1);(try clear c143b2);(try clear c144);(try clear c144b0);(try clear c144b1);(try clear c145);(try clear c146);(try clear c148);(try clear c150);(try clear c150b0);(try clear c151);(try clear c152);(try clear c152b0);(try clear c152b1);(try clear c155);(try clear c156);(try clear c156b0);(try clear p2);(try clear p6);(try clear p64)
                     obtain ⟨x66_8, x489_8, n489, rfl, HN489, HI489, HA, HK8, HY489⟩ := hrel
                     cases gk with
                     | zero => exact absurd HA.out (by simp [laws_FnLeastOfDigits.l1])
                     | succ k8 =>
                      have H := HA.out
                      clear HA
                      simp only [laws_FnLeastOfDigits.l1] at H
                      by_cases c157 : x489_8 < (t461.size : Int)
                      · rw [if_pos c157] at H
                        have hc489 : n489 < t461.size := by have := HN489.out; omega
                        by_cases ca489 : bt t461 x489_8 < 128 ∧ x489_8 < 4611686018427387904
                        rotate_left
                        · exact none_ (if_neg ca489) H
                        rw [if_pos ca489] at H
                        have hs489 : n489 < 4611686018427387904 := by have := HN489.out; have := ca489.2; omega
                        have ha489 : (t461[n489]'hc489).toNat < 128 := by have h_ := ca489.1; rw [HN489.out, byte_ t461 n489 hc489] at h_; omega
                        have hnx489 := fun ty => Lib.run_next_ascii_at (P := Tryz.prog) wr wr1.heap.size t461 n489 ty HI489.out hc489 ha489
                        rw [← HN489.out] at hnx489
                        have HY1 := Aside0.mk (Lib.below_iterAt HY489.out (Nat.le_refl _) t461 (n489 + 1))
                        have HI1 := Aside0.mk (Lib.iterAt_heap wr wr1.heap.size t461 n489 (n489 + 1) HI489.out)
                        clear HY489 HI489 ca489 ha489
                        generalize wr.iterAt wr1.heap.size t461 (n489 + 1) = wr2 at hnx489 HY1 HI1
                        have HY489 := HY1
                        have HI489 := HI1
                        clear HY1 HI1
                        have HS489 := Aside0.mk hs489
                        clear hs489
                        have HB := Aside0.mk (below_step HB.out HY489.out)
                        have c157b0 : decide (x489_8 < (t461.size : Int)) = true := decide_eq_true c157
                        clear c157
                        by_cases c158 : x66_8 = true
                        · subst c158
                          rw [if_pos rfl] at H
                          as_aux_lemma =>
                           have H' := Aside0.mk H
                           clear H
                           go_wp2
                           repeat (go_quiet (fail); try go_wp2)
                           go_roundg k8
                           case measure => have := HJ17.out; have := HJ57.out; have := HJ84.out; have := HJ96.out; have := HJ122.out; have := HJ146.out; have := HK7.out; have := HK8.out; omega
                           case rel => exact ⟨(true), (wrap64 (x489_8 + 1)), n489 + 1, z12_1_, ⟨by rw [HN489.out]; exact wrapn_ n489 HS489.out⟩, ⟨HI489.out⟩, H', ⟨by have := HJ17.out; have := HJ57.out; have := HJ84.out; have := HJ96.out; have := HJ122.out; have := HJ146.out; have := HK7.out; have := HK8.out; omega⟩, ⟨by repeat (first | exact HY489.out | (with_reducible first | exact Below.refl _ _ | apply below_alloc | apply pw_below_drewN | apply below_drew1))⟩⟩
                        replace c158 := Bool.eq_false_iff.mpr c158
                        subst c158
                        rw [if_neg (show ¬ (false = true) by decide)] at H
                        by_cases c159 : 0 ≤ x489_8
                        rotate_left
                        · exact none_ (if_neg c159) H
                        rw [if_pos c159] at H
                        have c159b0 : decide (0 ≤ x489_8) = true := decide_eq_true c159
                        clear c159
                        by_cases c160 : x489_8 < (t461.size : Int)
                        rotate_left
                        · exact none_ (if_neg c160) H
                        rw [if_pos c160] at H
                        have c160b0 : decide (x489_8 < (t461.size : Int)) = true := decide_eq_true c160
                        clear c160
                        as_aux_lemma =>
                        by_cases c162 : 0 ≤ x484_7
                        rotate_left
                        · exact none_ (if_neg c162) H
                        rw [if_pos c162] at H
                        have c162b0 : decide (0 ≤ x484_7) = true := decide_eq_true c162
                        clear c162
                        by_cases c163 : x484_7 < (t462.size : Int)
                        rotate_left
                        · exact none_ (if_neg c163) H
                        rw [if_pos c163] at H
                        have c163b0 : decide (x484_7 < (t462.size : Int)) = true := decide_eq_true c163
                        clear c163
                        as_aux_lemma =>
                         have H' := Aside0.mk H
                         clear H
                         have p161 : 0 ≤ (x489_8 : Int) := of_decide_eq_true z12_2_
                         have q161 : x489_8 < (t461.size : Int) := of_decide_eq_true z12_2_
                         have hx161 := bt_at t461 x489_8
                         replace p161 := eq_true p161
                         replace q161 := eq_true q161
                         have p164 : 0 ≤ (x484_7 : Int) := of_decide_eq_true z12_2_
                         have q164 : x484_7 < (t462.size : Int) := of_decide_eq_true z12_2_
                         have hx164 := bt_at t462 x484_7
                         replace p164 := eq_true p164
                         replace q164 := eq_true q164
                         go_wp2
                         repeat (go_quiet (fail); try go_wp2)
                         go_roundg k8
                         case measure => have := HJ17.out; have := HJ57.out; have := HJ84.out; have := HJ96.out; have := HJ122.out; have := HJ146.out; have := HK7.out; have := HK8.out; omega
                         case rel => exact ⟨(((bt t461 x489_8) == (bt t462 x484_7))), (wrap64 (x489_8 + 1)), n489 + 1, z12_1_, ⟨by rw [HN489.out]; exact wrapn_ n489 HS489.out⟩, ⟨HI489.out⟩, H', ⟨by have := HJ17.out; have := HJ57.out; have := HJ84.out; have := HJ96.out; have := HJ122.out; have := HJ146.out; have := HK7.out; have := HK8.out; omega⟩, ⟨by repeat (first | exact HY489.out | (with_reducible first | exact Below.refl _ _ | apply below_alloc | apply pw_below_drewN | apply below_drew1))⟩⟩
                      rw [if_neg c157] at H
                      have hnx489 := fun ty => Lib.run_next_end_at (P := Tryz.prog) wr wr1.heap.size t461 n489 ty HI489.out (by have := HN489.out; omega)
                      have HI484 := Aside0.mk ((HY489.out.block _ (ilt_ HI484.out)).trans HI484.out)
                      have HY484 := Aside0.mk (below_step HY484.out HY489.out)
                      have HB := Aside0.mk (below_step HB.out HY489.out)
                      have c157b0 : decide (x489_8 < (t461.size : Int)) = false := decide_eq_false c157
                      clear c157
                      as_aux_lemma =>
                      by_cases c165 : x66_8 = true
                      · subst c165
                        rw [if_pos rfl] at H
                        by_cases c166 : 0 ≤ x484_7
                        rotate_left
                        · exact none_ (if_neg c166) H
                        rw [if_pos c166] at H
                        have c166b0 : decide (0 ≤ x484_7) = true := decide_eq_true c166
                        clear c166
                        by_cases c167 : x484_7 < (t462.size : Int)
                        rotate_left
                        · exact none_ (if_neg c167) H
                        rw [if_pos c167] at H
                        have c167b0 : decide (x484_7 < (t462.size : Int)) = true := decide_eq_true c167
                        clear c167
                        by_cases c169 : t460 = 0
                        · exact none_ (if_pos c169) H
                        rw [if_neg c169] at H
                        have c169b0 : (t460 == 0) = false := beq_eq_false_iff_ne.mpr c169
                        have c169b1 : (t460 != 0) = true := bne_iff_ne.mpr c169
                        as_aux_lemma =>
                         have H' := Aside0.mk H
                         clear H
                         have p168 : 0 ≤ (x484_7 : Int) := of_decide_eq_true z12_2_
                         have q168 : x484_7 < (t462.size : Int) := of_decide_eq_true z12_2_
                         have hx168 := bt_at t462 x484_7
                         replace p168 := eq_true p168
                         replace q168 := eq_true q168
                         go_wp2
                         repeat (go_quiet (fail); try go_wp2)
                         go_roundg k8
                         case measure => have := HJ17.out; have := HJ57.out; have := HJ84.out; have := HJ96.out; have := HJ122.out; have := HJ146.out; have := HK7.out; have := HK8.out; omega
                         case rel => exact ⟨(Int.tmod (wrap64 ((wrap64 (10 * x64_7)) + (((bt t462 x484_7) - 48) % 256))) t460), (wrap64 (x484_7 + 1)), n484 + 1, z12_1_, ⟨by rw [HN484.out]; exact wrapn_ n484 HS484.out⟩, ⟨HI484.out⟩, H', ⟨by have := HJ17.out; have := HJ57.out; have := HJ84.out; have := HJ96.out; have := HJ122.out; have := HJ146.out; have := HK7.out; have := HK8.out; omega⟩, ⟨by repeat (first | exact HY484.out | (with_reducible first | exact Below.refl _ _ | apply below_alloc | apply pw_below_drewN | apply below_drew1))⟩⟩
                      replace c165 := Bool.eq_false_iff.mpr c165
                      subst c165
                      rw [if_neg (show ¬ (false = true) by decide)] at H
                      as_aux_lemma =>
                       exact dead2_ H hr_
                  rw [if_neg c156] at H
                  have hnx484 := fun ty => Lib.run_next_end_at (P := Tryz.prog) wr wc.heap.size t462 n484 ty HI484.out (by have := HN484.out; omega)
                  have HB := Aside0.mk (below_step HBz.out HY484.out)
                  have c156b0 : decide (x484_7 < (t462.size : Int)) = false := decide_eq_false c156
                  clear c156
                  (first | rw [c156b0] | (simp only [i64_w, i32_w]; rw [c156b0]) | skip)
                  as_aux_lemma =>
                  by_cases c170 : (t462.size : Int) < 1
                  · exact dead_ (if_pos c170) H hr_
                  rw [if_neg c170] at H
                  have c170b0 : decide ((t462.size : Int) < 1) = false := decide_eq_false c170
                  have c170b1 : decide (t462.size < 1) = false := decide_eq_false (by omega)
                  clear c170
                  by_cases c171 : 0 < (t462.size : Int)
                  rotate_left
                  · exact none_ (if_neg c171) H
                  rw [if_pos c171] at H
                  have c171b0 : decide (0 < (t462.size : Int)) = true := decide_eq_true c171
                  have c171b1 : decide (0 < t462.size) = true := decide_eq_true (by omega)
                  clear c171
                  by_cases c173 : (bt t462 0) = 48
                  · exact dead_ (if_pos c173) H hr_
                  rw [if_neg c173] at H
                  have c173b0 : ((bt t462 0) == 48) = false := beq_eq_false_iff_ne.mpr c173
                  have c173b1 : ((bt t462 0) != 48) = true := bne_iff_ne.mpr c173
                  by_cases c174 : x64_7 = 0
                  rotate_left
                  · exact dead_ (if_neg c174) H hr_
                  rw [if_pos c174] at H
                  have c174b0 : (x64_7 == 0) = true := beq_iff_eq.mpr c174
                  have c174b1 : (x64_7 != 0) = false := bne_eq_false_iff_eq.mpr c174
                  clear c174
                  as_aux_lemma =>
                  by_cases c175 : (t462.size : Int) > t460
                  · exact dead_ (if_pos c175) H hr_
                  rw [if_neg c175] at H
                  have c175b0 : decide (t460 < (t462.size : Int)) = false := decide_eq_false c175
                  clear c175
                  as_aux_lemma =>
                   have H' := Aside0.mk H
                   clear H
                   have p172 : 0 ≤ (0 : Int) := (by omega)
                   have q172 : 0 < t462.size := (by have : (0 : Int) < (t462.size : Int) := of_decide_eq_true z12_2_; omega)
                   have hx172 : ∀ h : 0 < t462.size, ((t462[0]'h).toNat : Int) = bt t462 0 := bt_at t462 0
                   clear p172
                   have qi172 : (0 < (t462.size : Int)) = True := eq_true (of_decide_eq_true z12_2_)
                   replace q172 := eq_true q172
                   go_wp2
                   repeat (go_quiet (fail); try go_wp2)
                   try any_goals (exfalso; exact undef_bool_ (by with_reducible assumption))
                   go_meet
                   case rel => exact ⟨_, H', ⟨by have := HJ17.out; have := HJ57.out; have := HJ84.out; have := HJ96.out; have := HJ122.out; have := HJ146.out; have := HK7.out; first | omega | exact Nat.le_refl _⟩, ⟨by repeat (first | (with_reducible first | exact HB.out | apply below_alloc | apply pw_below_drewN | apply below_drew1) | exact HB.out)⟩⟩
              replace c155 := Bool.eq_false_iff.mpr c155
              subst c155
              rw [if_neg (show ¬ (false = true) by decide)] at H
              as_aux_lemma =>
               have H' := Aside0.mk H
               clear H
               go_wp2
               repeat (go_quiet (fail); try go_wp2)
               try any_goals (exfalso; exact undef_bool_ (by with_reducible assumption))
               go_meet
               case rel => exact ⟨_, H', ⟨by have := HJ17.out; have := HJ57.out; have := HJ84.out; have := HJ96.out; have := HJ122.out; have := HJ146.out; first | omega | exact Nat.le_refl _⟩, ⟨by repeat (first | (with_reducible first | exact HB.out | apply below_alloc | apply pw_below_drewN | apply below_drew1) | exact HB.out)⟩⟩
             case rest =>
              as_aux_lemma =>
              clear HC154
              (try clear c1);(try clear p1);(try clear q1);(try clear hx1);(try clear qi1);(try clear p2);(try clear c3);(try clear c4);(try clear c5);(try clear c6);(try clear p6);(try clear c7);(try clear c8);(try clear c9);(try clear c10);(try clear c13);(try clear c14);(try clear c15);(try clear c16);(try clear p16);(try clear q16);(try clear hx16);(try clear c17);(try clear p17);(try clear q17);(try clear hx17);(try clear qi17);(try clear c32);(try clear c32b0);(try clear c32b1);(try clear c32b2);(try clear c33);(try clear c33b0);(try clear c33b1);(try clear c34);(try clear c34b0);(try clear c34b1);(try clear c34b2);(try clear c35);(try clear c35b0);(try clear c35b1);(try clear c36);(try clear c36b0);(try clear c36b1);(try clear c36b2);(try clear c37);(try clear c37b0);(try clear c37b1);(try clear c38);(try clear c38b0);(try clear c38b1);(try clear c38b2);(try clear c39);(try clear c39b0);(try clear c39b1);(try clear c40);(try clear c40b0);(try clear c40b1);(try clear c40b2);(try clear c41);(try clear c41b0);(try clear c41b1);(try clear c42);(try clear c42b0);(try clear c42b1);(try clear c42b2);(try clear c43);(try clear c43b0);(try clear c43b1);(try clear c44);(try clear c45);(try clear c46);(try clear c47);(try clear c47b0);(try clear c47b1);(try clear c47b2);(try clear c48);(try clear c48b0);(try clear c48b1);(try clear c48b2);(try clear c49);(try clear c49b0);(try clear c49b1);(try clear c49b2);(try clear c50);(try clear c50b0);(try clear c50b1);(try clear c50b2);(try clear c51);(try clear c52);(try clear c53);(try clear c53b0);(try clear c53b1);(try clear c53b2);(try clear c54);(try clear c54b0);(try clear c54b1);(try clear c54b2);(try clear c55);(try clear c55b0);(try clear c55b1);(try clear c55b2);(try clear c56);(try clear c56b0);(try clear c56b1);(try clear c56b2);(try clear c57);(try clear c59);(try clear c60);(try clear c60b0);(try clear c61);(try clear c61b0);(try clear c64);(try clear c64b0);(try clear c64b1);(try clear p64);(try clear c67);(try clear c67b0);(try clear c67b1);(try clear c68);(try clear c68b0);(try clear c68b1);(try clear c68b2);(try clear c69);(try clear c69b0);(try clear c69b1);(try clear c69b2);(try clear c70);(try clear c70b0);(try clear c71);(try clear c71b0);(try clear c71b1);(try clear c71b2);(try clear c72);(try clear c72b0);(try clear c74);(try clear c75);(try clear c75b0);(try clear c75b1);(try clear c86);(try clear c88);(try clear c88b0);(try clear c91);(try clear c91b0);(try clear c91b1);(try clear c92);(try clear c93);(try clear c93b0);(try clear c93b1);(try clear c98);(try clear c100);(try clear c100b0);(try clear c103);(try clear c103b0);(try clear c103b1);(try clear c104);(try clear c105);(try clear c105b0);(try clear c105b1);(try clear c135);(try clear c135b0);(try clear c135b1);(try clear c135b2);(try clear c136);(try clear c136b0);(try clear c136b1);(try clear c137);(try clear c137b0);(try clear c137b1);(try clear c137b2);(try clear c138);(try clear c138b0);(try clear c138b1);(try clear c139);(try clear c139b0)
              (try clear c139b1);(try clear c139b2);(try clear c140);(try clear c140b0);(try clear c140b1);(try clear c141);(try clear c141b0);(try clear c141b1);(try clear c141b2);(try clear c142);(try clear c142b0);(try clear c142b1);(try clear c143);(try clear c143b0);(try clear c143b1);(try clear c143b2);(try clear c144);(try clear c144b0);(try clear c144b1);(try clear c145);(try clear c146);(try clear c148);(try clear c150);(try clear c150b0);(try clear c151);(try clear c152);(try clear c152b0);(try clear c152b1);(try clear c155);(try clear c156);(try clear c156b0);(try clear c157);(try clear c157b0);(try clear c158);(try clear c159);(try clear c159b0);(try clear c160);(try clear c160b0);(try clear p161);(try clear q161);(try clear hx161);(try clear c162);(try clear c162b0);(try clear c163);(try clear c163b0);(try clear p164);(try clear q164);(try clear hx164);(try clear c165);(try clear c166);(try clear c166b0);(try clear c167);(try clear c167b0);(try clear p168);(try clear q168);(try clear hx168);(try clear c169);(try clear c169b0);(try clear c169b1);(try clear c170);(try clear c170b0);(try clear c170b1);(try clear c171);(try clear c171b0);(try clear c171b1);(try clear p172);(try clear q172);(try clear hx172);(try clear qi172);(try clear c173);(try clear c173b0);(try clear c173b1);(try clear c174);(try clear c174b0);(try clear c174b1);(try clear c175);(try clear c175b0);(try clear p161);(try clear p164);(try clear p168);(try clear p172);(try clear p2);(try clear p6);(try clear p64);(try clear q161);(try clear q164);(try clear q168);(try clear q172)
              obtain ⟨kq, HA, HJ153, HB⟩ := hcut
              cases kq with
              | zero => exact absurd HA.out (by simp [laws_FnLeastOfDigits.j8])
              | succ kj153 =>
               have H := HA.out
               clear HA
               simp only [laws_FnLeastOfDigits.j8] at H
               have HC176 := Aside0.mk H
               clear H
               go_upto_if 533 with (fail)
               repeat (go_quiet (fail); go_upto_if 533 with (fail))
               go_cut [] from 533 to 570 (fun wc => ∃ (kq : Nat), Aside0 (laws_FnLeastOfDigits.j9 kq t466 t471 t472 t475 t476 t477 t478 = some r) ∧ Aside0 (kq ≤ kj153) ∧ Aside0 (Below w.heap.size w wc))
               case first =>
                as_aux_lemma =>
                have H := HC176.out
                clear HC176
                by_cases c177 : t468 = true
                · subst c177
                  rw [if_pos rfl] at H
                  replace H := Option.bind_eq_some_iff.mp H
                  obtain ⟨⟨t483, t484⟩, A1780, H⟩ := H
                  dsimp only at H
                  have A178 := Aside0.mk A1780
                  clear A1780
                  by_cases c179 : (t467.size : Int) < 1
                  · exact dead_ (if_pos c179) H hr_
                  rw [if_neg c179] at H
                  have c179b0 : decide ((t467.size : Int) < 1) = false := decide_eq_false c179
                  have c179b1 : decide (t467.size < 1) = false := decide_eq_false (by omega)
                  clear c179
                  (first | rw [c179b0] | (simp only [i64_w, i32_w]; rw [c179b0]) | skip)
                  by_cases c180 : (t467.size : Int) > 2
                  · exact dead_ (if_pos c180) H hr_
                  rw [if_neg c180] at H
                  have c180b0 : decide (2 < (t467.size : Int)) = false := decide_eq_false c180
                  have c180b1 : decide (2 < t467.size) = false := decide_eq_false (by omega)
                  clear c180
                  by_cases c181 : t484 = true
                  · subst c181
                    rw [if_pos rfl] at H
                    by_cases c182 : (Int.tmod t466 2) = 0
                    · rw [if_pos c182] at H
                      have c182b0 : ((Int.tmod t466 2) == 0) = true := beq_iff_eq.mpr c182
                      have c182b1 : ((Int.tmod t466 2) != 0) = false := bne_eq_false_iff_eq.mpr c182
                      clear c182
                      by_cases c183 : (t472 != false) = true
                      · exact dead_ (if_pos c183) H hr_
                      rw [if_neg c183] at H
                      have c183b0 : (t472 != false) = false := by simpa using c183
                      (try (have c183b1 : decide (t472 = false) = true := by simpa using c183))
                      (try (have c183b2 : (t472 == false) = true := by simpa using c183))
                      clear c183
                      by_cases c184 : t472 = true
                      · subst c184
                        rw [if_pos rfl] at H
                        by_cases c185 : t467.toList = ([49] : List UInt8)
                        rotate_left
                        · exact dead_ (if_neg c185) H hr_
                        rw [if_pos c185] at H
                        have c185b0 : (t467.toList == ([49] : List UInt8)) = true := beq_iff_eq.mpr c185
                        have c185b1 : (t467.toList != ([49] : List UInt8)) = false := bne_eq_false_iff_eq.mpr c185
                        clear c185
                        as_aux_lemma =>
                         have H' := Aside0.mk H
                         clear H
                         go_wp2_with (first | (go_at_call 23; (with_reducible refine (impl_LeastMultiple.calls kj153 t466 t467 t483 true _ A178.out).mono ?_); rintro e w186 ⟨rfl, hb⟩; have n0_ := Aside0.mk (below_step z12_0_ hb); clear HB; have HB := n0_; clear n0_; (try clear hb); (try clear hb2); (try clear hk); (try clear hi)))
                         repeat (go_quiet (fail); try go_wp2_with (first | (go_at_call 23; (with_reducible refine (impl_LeastMultiple.calls kj153 t466 t467 t483 true _ A178.out).mono ?_); rintro e w186 ⟨rfl, hb⟩; have n0_ := Aside0.mk (below_step z12_0_ hb); clear HB; have HB := n0_; clear n0_; (try clear hb); (try clear hb2); (try clear hk); (try clear hi))))
                         try any_goals (exfalso; exact undef_bool_ (by with_reducible assumption))
                         go_meet
                         case rel => exact ⟨_, H', ⟨by have := HJ17.out; have := HJ57.out; have := HJ84.out; have := HJ96.out; have := HJ122.out; have := HJ146.out; have := HJ153.out; first | omega | exact Nat.le_refl _⟩, ⟨by repeat (first | (with_reducible first | exact HB.out | apply below_alloc | apply pw_below_drewN | apply below_drew1) | exact HB.out)⟩⟩
                      replace c184 := Bool.eq_false_iff.mpr c184
                      subst c184
                      rw [if_neg (show ¬ (false = true) by decide)] at H
                      as_aux_lemma =>
                       have H' := Aside0.mk H
                       clear H
                       go_wp2_with (first | (go_at_call 23; (with_reducible refine (impl_LeastMultiple.calls kj153 t466 t467 t483 true _ A178.out).mono ?_); rintro e w187 ⟨rfl, hb⟩; have n0_ := Aside0.mk (below_step z12_0_ hb); clear HB; have HB := n0_; clear n0_; (try clear hb); (try clear hb2); (try clear hk); (try clear hi)))
                       repeat (go_quiet (fail); try go_wp2_with (first | (go_at_call 23; (with_reducible refine (impl_LeastMultiple.calls kj153 t466 t467 t483 true _ A178.out).mono ?_); rintro e w187 ⟨rfl, hb⟩; have n0_ := Aside0.mk (below_step z12_0_ hb); clear HB; have HB := n0_; clear n0_; (try clear hb); (try clear hb2); (try clear hk); (try clear hi))))
                       try any_goals (exfalso; exact undef_bool_ (by with_reducible assumption))
                       go_meet
                       case rel => exact ⟨_, H', ⟨by have := HJ17.out; have := HJ57.out; have := HJ84.out; have := HJ96.out; have := HJ122.out; have := HJ146.out; have := HJ153.out; first | omega | exact Nat.le_refl _⟩, ⟨by repeat (first | (with_reducible first | exact HB.out | apply below_alloc | apply pw_below_drewN | apply below_drew1) | exact HB.out)⟩⟩
                    rw [if_neg c182] at H
                    have c182b0 : ((Int.tmod t466 2) == 0) = false := beq_eq_false_iff_ne.mpr c182
                    have c182b1 : ((Int.tmod t466 2) != 0) = true := bne_iff_ne.mpr c182
                    as_aux_lemma =>
                    by_cases c188 : (t472 != ((Int.tmod t466 5) != 0)) = true
                    · exact dead_ (if_pos c188) H hr_
                    rw [if_neg c188] at H
                    have c188b0 : (t472 != ((Int.tmod t466 5) != 0)) = false := by simpa using c188
                    (try (have c188b1 : decide (t472 = ((Int.tmod t466 5) != 0)) = true := by simpa using c188))
                    (try (have c188b2 : (t472 == ((Int.tmod t466 5) != 0)) = true := by simpa using c188))
                    clear c188
                    by_cases c189 : t472 = true
                    · subst c189
                      rw [if_pos rfl] at H
                      by_cases c190 : t467.toList = ([49] : List UInt8)
                      rotate_left
                      · exact dead_ (if_neg c190) H hr_
                      rw [if_pos c190] at H
                      have c190b0 : (t467.toList == ([49] : List UInt8)) = true := beq_iff_eq.mpr c190
                      have c190b1 : (t467.toList != ([49] : List UInt8)) = false := bne_eq_false_iff_eq.mpr c190
                      clear c190
                      as_aux_lemma =>
                       have H' := Aside0.mk H
                       clear H
                       go_wp2_with (first | (go_at_call 23; (with_reducible refine (impl_LeastMultiple.calls kj153 t466 t467 t483 true _ A178.out).mono ?_); rintro e w191 ⟨rfl, hb⟩; have n0_ := Aside0.mk (below_step z12_0_ hb); clear HB; have HB := n0_; clear n0_; (try clear hb); (try clear hb2); (try clear hk); (try clear hi)))
                       repeat (go_quiet (fail); try go_wp2_with (first | (go_at_call 23; (with_reducible refine (impl_LeastMultiple.calls kj153 t466 t467 t483 true _ A178.out).mono ?_); rintro e w191 ⟨rfl, hb⟩; have n0_ := Aside0.mk (below_step z12_0_ hb); clear HB; have HB := n0_; clear n0_; (try clear hb); (try clear hb2); (try clear hk); (try clear hi))))
                       try any_goals (exfalso; exact undef_bool_ (by with_reducible assumption))
                       go_meet
                       case rel => exact ⟨_, H', ⟨by have := HJ17.out; have := HJ57.out; have := HJ84.out; have := HJ96.out; have := HJ122.out; have := HJ146.out; have := HJ153.out; first | omega | exact Nat.le_refl _⟩, ⟨by repeat (first | (with_reducible first | exact HB.out | apply below_alloc | apply pw_below_drewN | apply below_drew1) | exact HB.out)⟩⟩
                    replace c189 := Bool.eq_false_iff.mpr c189
                    subst c189
                    rw [if_neg (show ¬ (false = true) by decide)] at H
                    as_aux_lemma =>
                     have H' := Aside0.mk H
                     clear H
                     go_wp2_with (first | (go_at_call 23; (with_reducible refine (impl_LeastMultiple.calls kj153 t466 t467 t483 true _ A178.out).mono ?_); rintro e w192 ⟨rfl, hb⟩; have n0_ := Aside0.mk (below_step z12_0_ hb); clear HB; have HB := n0_; clear n0_; (try clear hb); (try clear hb2); (try clear hk); (try clear hi)))
                     repeat (go_quiet (fail); try go_wp2_with (first | (go_at_call 23; (with_reducible refine (impl_LeastMultiple.calls kj153 t466 t467 t483 true _ A178.out).mono ?_); rintro e w192 ⟨rfl, hb⟩; have n0_ := Aside0.mk (below_step z12_0_ hb); clear HB; have HB := n0_; clear n0_; (try clear hb); (try clear hb2); (try clear hk); (try clear hi))))
                     try any_goals (exfalso; exact undef_bool_ (by with_reducible assumption))
                     go_meet
                     case rel => exact ⟨_, H', ⟨by have := HJ17.out; have := HJ57.out; have := HJ84.out; have := HJ96.out; have := HJ122.out; have := HJ146.out; have := HJ153.out; first | omega | exact Nat.le_refl _⟩, ⟨by repeat (first | (with_reducible first | exact HB.out | apply below_alloc | apply pw_below_drewN | apply below_drew1) | exact HB.out)⟩⟩
                  replace c181 := Bool.eq_false_iff.mpr c181
                  subst c181
                  rw [if_neg (show ¬ (false = true) by decide)] at H
                  as_aux_lemma =>
                   exact dead2_ H hr_
                replace c177 := Bool.eq_false_iff.mpr c177
                subst c177
                rw [if_neg (show ¬ (false = true) by decide)] at H
                as_aux_lemma =>
                 have H' := Aside0.mk H
                 clear H
                 go_wp2
                 repeat (go_quiet (fail); try go_wp2)
                 try any_goals (exfalso; exact undef_bool_ (by with_reducible assumption))
                 go_meet
                 case rel => exact ⟨_, H', ⟨by have := HJ17.out; have := HJ57.out; have := HJ84.out; have := HJ96.out; have := HJ122.out; have := HJ146.out; have := HJ153.out; first | omega | exact Nat.le_refl _⟩, ⟨by repeat (first | (with_reducible first | exact HB.out | apply below_alloc | apply pw_below_drewN | apply below_drew1) | exact HB.out)⟩⟩
               case rest =>
                as_aux_lemma =>
                clear HC176
                (try clear c1);(try clear p1);(try clear q1);(try clear hx1);(try clear qi1);(try clear p2);(try clear c3);(try clear c4);(try clear c5);(try clear c6);(try clear p6);(try clear c7);(try clear c8);(try clear c9);(try clear c10);(try clear c13);(try clear c14);(try clear c15);(try clear c16);(try clear p16);(try clear q16);(try clear hx16);(try clear c17);(try clear p17);(try clear q17);(try clear hx17);(try clear qi17);(try clear c18);(try clear c19);(try clear c32);(try clear c32b0);(try clear c32b1);(try clear c32b2);(try clear c33);(try clear c33b0);(try clear c33b1);(try clear c34);(try clear c34b0);(try clear c34b1);(try clear c34b2);(try clear c35);(try clear c35b0);(try clear c35b1);(try clear c36);(try clear c36b0);(try clear c36b1);(try clear c36b2);(try clear c37);(try clear c37b0);(try clear c37b1);(try clear c38);(try clear c38b0);(try clear c38b1);(try clear c38b2);(try clear c39);(try clear c39b0);(try clear c39b1);(try clear c40);(try clear c40b0);(try clear c40b1);(try clear c40b2);(try clear c41);(try clear c41b0);(try clear c41b1);(try clear c42);(try clear c42b0);(try clear c42b1);(try clear c42b2);(try clear c43);(try clear c43b0);(try clear c43b1);(try clear c44);(try clear c45);(try clear c46);(try clear c47);(try clear c47b0);(try clear c47b1);(try clear c47b2);(try clear c48);(try clear c48b0);(try clear c48b1);(try clear c48b2);(try clear c49);(try clear c49b0);(try clear c49b1);(try clear c49b2);(try clear c50);(try clear c50b0);(try clear c50b1);(try clear c50b2);(try clear c51);(try clear c52);(try clear c53);(try clear c53b0);(try clear c53b1);(try clear c53b2);(try clear c54);(try clear c54b0);(try clear c54b1);(try clear c54b2);(try clear c55);(try clear c55b0);(try clear c55b1);(try clear c55b2);(try clear c56);(try clear c56b0);(try clear c56b1);(try clear c56b2);(try clear c57);(try clear c59);(try clear c60);(try clear c60b0);(try clear c61);(try clear c61b0);(try clear c64);(try clear c64b0);(try clear c64b1);(try clear p64);(try clear c67);(try clear c67b0);(try clear c67b1);(try clear c68);(try clear c68b0);(try clear c68b1);(try clear c68b2);(try clear c69);(try clear c69b0);(try clear c69b1);(try clear c69b2);(try clear c70);(try clear c70b0);(try clear c71);(try clear c71b0);(try clear c71b1);(try clear c71b2);(try clear c72);(try clear c72b0);(try clear c74);(try clear c75);(try clear c75b0);(try clear c75b1);(try clear c86);(try clear c88);(try clear c88b0);(try clear c91);(try clear c91b0);(try clear c91b1);(try clear c92);(try clear c93);(try clear c93b0);(try clear c93b1);(try clear c98);(try clear c100);(try clear c100b0);(try clear c103);(try clear c103b0);(try clear c103b1);(try clear c104);(try clear c105);(try clear c105b0);(try clear c105b1);(try clear c135);(try clear c135b0);(try clear c135b1);(try clear c135b2);(try clear c136);(try clear c136b0);(try clear c136b1);(try clear c137);(try clear c137b0);(try clear c137b1);(try clear c137b2);(try clear c138);(try clear c138b0);(try clear c138b1)
                (try clear c139);(try clear c139b0);(try clear c139b1);(try clear c139b2);(try clear c140);(try clear c140b0);(try clear c140b1);(try clear c141);(try clear c141b0);(try clear c141b1);(try clear c141b2);(try clear c142);(try clear c142b0);(try clear c142b1);(try clear c143);(try clear c143b0);(try clear c143b1);(try clear c143b2);(try clear c144);(try clear c144b0);(try clear c144b1);(try clear c145);(try clear c146);(try clear c148);(try clear c150);(try clear c150b0);(try clear c151);(try clear c152);(try clear c152b0);(try clear c152b1);(try clear c155);(try clear c156);(try clear c156b0);(try clear c157);(try clear c157b0);(try clear c158);(try clear c159);(try clear c159b0);(try clear c160);(try clear c160b0);(try clear p161);(try clear q161);(try clear hx161);(try clear c162);(try clear c162b0);(try clear c163);(try clear c163b0);(try clear p164);(try clear q164);(try clear hx164);(try clear c165);(try clear c166);(try clear c166b0);(try clear c167);(try clear c167b0);(try clear p168);(try clear q168);(try clear hx168);(try clear c169);(try clear c169b0);(try clear c169b1);(try clear c170);(try clear c170b0);(try clear c170b1);(try clear c171);(try clear c171b0);(try clear c171b1);(try clear p172);(try clear q172);(try clear hx172);(try clear qi172);(try clear c173);(try clear c173b0);(try clear c173b1);(try clear c174);(try clear c174b0);(try clear c174b1);(try clear c175);(try clear c175b0);(try clear c177);(try clear c179);(try clear c179b0);(try clear c179b1);(try clear c180);(try clear c180b0);(try clear c180b1);(try clear c181);(try clear c182);(try clear c182b0);(try clear c182b1);(try clear c183);(try clear c183b0);(try clear c183b1);(try clear c183b2);(try clear c184);(try clear c185);(try clear c185b0);(try clear c185b1);(try clear c188);(try clear c188b0);(try clear c188b1);(try clear c188b2);(try clear c189);(try clear c190);(try clear c190b0);(try clear c190b1);(try clear p1);(try clear p16);(try clear p161);(try clear p164);(try clear p168);(try clear p17);(try clear p172);(try clear p2);(try clear p6);(try clear p64);(try clear q1);(try clear q16);(try clear q161);(try clear q164);(try clear q168);(try clear q17);(try clear q172)
                obtain ⟨kq, HA, HJ175, HB⟩ := hcut
                cases kq with
                | zero => exact absurd HA.out (by simp [laws_FnLeastOfDigits.j9])
                | succ kj175 =>
                 have H := HA.out
                 clear HA
                 simp only [laws_FnLeastOfDigits.j9] at H
                 by_cases c193 : t472 = true
                 · subst c193
                   rw [if_pos rfl] at H
                   replace H := Option.bind_eq_some_iff.mp H
                   obtain ⟨⟨t485, t486⟩, A1940, H⟩ := H
                   dsimp only at H
                   have A194 := Aside0.mk A1940
                   clear A1940
                   by_cases c195 : t471 < 1
                   · exact dead_ (if_pos c195) H hr_
                   rw [if_neg c195] at H
                   have c195b0 : decide (t471 < 1) = false := decide_eq_false c195
                   clear c195
                   by_cases c196 : t471 > t466
                   · exact dead_ (if_pos c196) H hr_
                   rw [if_neg c196] at H
                   have c196b0 : decide (t466 < t471) = false := decide_eq_false c196
                   clear c196
                   by_cases c197 : t486 = true
                   · subst c197
                     rw [if_pos rfl] at H
                     by_cases c198 : t485 = 0
                     rotate_left
                     · exact dead_ (if_neg c198) H hr_
                     rw [if_pos c198] at H
                     have c198b0 : (t485 == 0) = true := beq_iff_eq.mpr c198
                     have c198b1 : (t485 != 0) = false := bne_eq_false_iff_eq.mpr c198
                     clear c198
                     have H' := Aside0.mk H
                     clear H
                     go_wp2_with (first | (go_at_call 31; (with_reducible refine (impl_RestOfOnes.calls kj175 t466 t471 t485 true _ A194.out).mono ?_); rintro e w' ⟨rfl, ⟨nd, rfl⟩⟩; (try first | exact ⟨rfl, _, World.drewN_drewN _ _ _⟩ | exact ⟨rfl, _, Eq.trans (World.drewN_drewN _ _ _) (congrArg (World.drewN _) (Nat.add_assoc _ _ _))⟩)))
                     repeat (go_quiet (fail); try go_wp2_with (first | (go_at_call 31; (with_reducible refine (impl_RestOfOnes.calls kj175 t466 t471 t485 true _ A194.out).mono ?_); rintro e w' ⟨rfl, ⟨nd, rfl⟩⟩; (try first | exact ⟨rfl, _, World.drewN_drewN _ _ _⟩ | exact ⟨rfl, _, Eq.trans (World.drewN_drewN _ _ _) (congrArg (World.drewN _) (Nat.add_assoc _ _ _))⟩))))
                     go_loopg [72] kj175 (fun kq v72 w' => ∃ (x72_9 : Int), v72 = .int .i64 x72_9 ∧ Aside0 (laws_FnLeastOfDigits.l2 kq t466 t471 t475 t476 t477 t478 x72_9 = some r) ∧ Aside0 (kq ≤ kj175) ∧ Aside0 (Below w.heap.size w w'))
                     case atStart => exact ⟨(1), z12_1_, H', ⟨Nat.le_refl _⟩, ⟨by repeat (first | (with_reducible first | exact HB.out | apply below_alloc | apply pw_below_drewN | apply below_drew1) | exact HB.out)⟩⟩
                     case round =>
                      clear H'
                      (try clear c1);(try clear p1);(try clear q1);(try clear hx1);(try clear qi1);(try clear p2);(try clear c3);(try clear c4);(try clear c5);(try clear c6);(try clear p6);(try clear c7);(try clear c8);(try clear c9);(try clear c10);(try clear c13);(try clear c14);(try clear c15);(try clear c16);(try clear p16);(try clear q16);(try clear hx16);(try clear c17);(try clear p17);(try clear q17);(try clear hx17);(try clear qi17);(try clear c18);(try clear c19);(try clear c32);(try clear c32b0);(try clear c32b1);(try clear c32b2);(try clear c33);(try clear c33b0);(try clear c33b1);(try clear c34);(try clear c34b0);(try clear c34b1);(try clear c34b2);(try clear c35);(try clear c35b0);(try clear c35b1);(try clear c36);(try clear c36b0);(try clear c36b1);(try clear c36b2);(try clear c37);(try clear c37b0);(try clear c37b1);(try clear c38);(try clear c38b0);(try clear c38b1);(try clear c38b2);(try clear c39);(try clear c39b0);(try clear c39b1);(try clear c40);(try clear c40b0);(try clear c40b1);(try clear c40b2);(try clear c41);(try clear c41b0);(try clear c41b1);(try clear c42);(try clear c42b0);(try clear c42b1);(try clear c42b2);(try clear c43);(try clear c43b0);(try clear c43b1);(try clear c44);(try clear c45);(try clear c46);(try clear c47);(try clear c47b0);(try clear c47b1);(try clear c47b2);(try clear c48);(try clear c48b0);(try clear c48b1);(try clear c48b2);(try clear c49);(try clear c49b0);(try clear c49b1);(try clear c49b2);(try clear c50);(try clear c50b0);(try clear c50b1);(try clear c50b2);(try clear c51);(try clear c52);(try clear c53);(try clear c53b0);(try clear c53b1);(try clear c53b2);(try clear c54);(try clear c54b0);(try clear c54b1);(try clear c54b2);(try clear c55);(try clear c55b0);(try clear c55b1);(try clear c55b2);(try clear c56);(try clear c56b0);(try clear c56b1);(try clear c56b2);(try clear c57);(try clear c59);(try clear c60);(try clear c60b0);(try clear c61);(try clear c61b0);(try clear c64);(try clear c64b0);(try clear c64b1);(try clear p64);(try clear c67);(try clear c67b0);(try clear c67b1);(try clear c68);(try clear c68b0);(try clear c68b1);(try clear c68b2);(try clear c69);(try clear c69b0);(try clear c69b1);(try clear c69b2);(try clear c70);(try clear c70b0);(try clear c71);(try clear c71b0);(try clear c71b1);(try clear c71b2);(try clear c72);(try clear c72b0);(try clear c74);(try clear c75);(try clear c75b0);(try clear c75b1);(try clear c86);(try clear c88);(try clear c88b0);(try clear c91);(try clear c91b0);(try clear c91b1);(try clear c92);(try clear c93);(try clear c93b0);(try clear c93b1);(try clear c98);(try clear c100);(try clear c100b0);(try clear c103);(try clear c103b0);(try clear c103b1);(try clear c104);(try clear c105);(try clear c105b0);(try clear c105b1);(try clear c135);(try clear c135b0);(try clear c135b1);(try clear c135b2);(try clear c136);(try clear c136b0);(try clear c136b1);(try clear c137);(try clear c137b0);(try clear c137b1);(try clear c137b2);(try clear c138);(try clear c138b0)
                      (try clear c138b1);(try clear c139);(try clear c139b0);(try clear c139b1);(try clear c139b2);(try clear c140);(try clear c140b0);(try clear c140b1);(try clear c141);(try clear c141b0);(try clear c141b1);(try clear c141b2);(try clear c142);(try clear c142b0);(try clear c142b1);(try clear c143);(try clear c143b0);(try clear c143b1);(try clear c143b2);(try clear c144);(try clear c144b0);(try clear c144b1);(try clear c145);(try clear c146);(try clear c148);(try clear c150);(try clear c150b0);(try clear c151);(try clear c152);(try clear c152b0);(try clear c152b1);(try clear c155);(try clear c156);(try clear c156b0);(try clear c157);(try clear c157b0);(try clear c158);(try clear c159);(try clear c159b0);(try clear c160);(try clear c160b0);(try clear p161);(try clear q161);(try clear hx161);(try clear c162);(try clear c162b0);(try clear c163);(try clear c163b0);(try clear p164);(try clear q164);(try clear hx164);(try clear c165);(try clear c166);(try clear c166b0);(try clear c167);(try clear c167b0);(try clear p168);(try clear q168);(try clear hx168);(try clear c169);(try clear c169b0);(try clear c169b1);(try clear c170);(try clear c170b0);(try clear c170b1);(try clear c171);(try clear c171b0);(try clear c171b1);(try clear p172);(try clear q172);(try clear hx172);(try clear qi172);(try clear c173);(try clear c173b0);(try clear c173b1);(try clear c174);(try clear c174b0);(try clear c174b1);(try clear c175);(try clear c175b0);(try clear c177);(try clear c179);(try clear c179b0);(try clear c179b1);(try clear c180);(try clear c180b0);(try clear c180b1);(try clear c181);(try clear c182);(try clear c182b0);(try clear c182b1);(try clear c183);(try clear c183b0);(try clear c183b1);(try clear c183b2);(try clear c184);(try clear c185);(try clear c185b0);(try clear c185b1);(try clear c188);(try clear c188b0);(try clear c188b1);(try clear c188b2);(try clear c189);(try clear c190);(try clear c190b0);(try clear c190b1);(try clear c193);(try clear c195);(try clear c195b0);(try clear c196);(try clear c196b0);(try clear c197);(try clear c198);(try clear c198b0);(try clear c198b1);(try clear p1);(try clear p16);(try clear p161);(try clear p164);(try clear p168);(try clear p17);(try clear p172);(try clear p2);(try clear p6);(try clear p64);(try clear q1);(try clear q16);(try clear q161);(try clear q164);(try clear q168);(try clear q17);(try clear q172)
                      obtain ⟨x72_9, rfl, HA, HK9, HB⟩ := hrel
                      cases gk with
                      | zero => exact absurd HA.out (by simp [laws_FnLeastOfDigits.l2])
                      | succ k9 =>
                       have H := HA.out
                       clear HA
                       simp only [laws_FnLeastOfDigits.l2] at H
                       by_cases c199 : x72_9 < t471
                       · rw [if_pos c199] at H
                         have c199b0 : decide (x72_9 < t471) = true := decide_eq_true c199
                         clear c199
                         by_cases c200 : x72_9 < 12
                         · rw [if_pos c200] at H
                           have c200b0 : decide (x72_9 < 12) = true := decide_eq_true c200
                           clear c200
                           replace H := Option.bind_eq_some_iff.mp H
                           obtain ⟨⟨t487, t488⟩, A2010, H⟩ := H
                           dsimp only at H
                           have A201 := Aside0.mk A2010
                           clear A2010
                           by_cases c202 : t488 = true
                           · subst c202
                             rw [if_pos rfl] at H
                             by_cases c203 : t487 = 0
                             · exact dead_ (if_pos c203) H hr_
                             rw [if_neg c203] at H
                             have c203b0 : (t487 == 0) = false := beq_eq_false_iff_ne.mpr c203
                             have c203b1 : (t487 != 0) = true := bne_iff_ne.mpr c203
                             as_aux_lemma =>
                              have H' := Aside0.mk H
                              clear H
                              go_wp2_with (first | (go_at_call 31; (with_reducible refine (impl_RestOfOnes.calls k9 t466 x72_9 t487 true _ A201.out).mono ?_); rintro e w' ⟨rfl, ⟨nd, rfl⟩⟩; (try first | exact ⟨rfl, _, World.drewN_drewN _ _ _⟩ | exact ⟨rfl, _, Eq.trans (World.drewN_drewN _ _ _) (congrArg (World.drewN _) (Nat.add_assoc _ _ _))⟩)))
                              repeat (go_quiet (fail); try go_wp2_with (first | (go_at_call 31; (with_reducible refine (impl_RestOfOnes.calls k9 t466 x72_9 t487 true _ A201.out).mono ?_); rintro e w' ⟨rfl, ⟨nd, rfl⟩⟩; (try first | exact ⟨rfl, _, World.drewN_drewN _ _ _⟩ | exact ⟨rfl, _, Eq.trans (World.drewN_drewN _ _ _) (congrArg (World.drewN _) (Nat.add_assoc _ _ _))⟩))))
                              go_roundg k9
                              case measure => have := HJ17.out; have := HJ57.out; have := HJ84.out; have := HJ96.out; have := HJ122.out; have := HJ146.out; have := HJ153.out; have := HJ175.out; have := HK9.out; omega
                              case rel => exact ⟨(wrap64 (x72_9 + 1)), z12_1_, H', ⟨by have := HJ17.out; have := HJ57.out; have := HJ84.out; have := HJ96.out; have := HJ122.out; have := HJ146.out; have := HJ153.out; have := HJ175.out; have := HK9.out; omega⟩, ⟨by repeat (first | (with_reducible first | exact HB.out | apply below_alloc | apply pw_below_drewN | apply below_drew1) | exact HB.out)⟩⟩
                           replace c202 := Bool.eq_false_iff.mpr c202
                           subst c202
                           rw [if_neg (show ¬ (false = true) by decide)] at H
                           as_aux_lemma =>
                            exact dead2_ H hr_
                         rw [if_neg c200] at H
                         have c200b0 : decide (x72_9 < 12) = false := decide_eq_false c200
                         clear c200
                         as_aux_lemma =>
                         by_cases c204 : t478 = true
                         · subst c204
                           rw [if_pos rfl] at H
                           by_cases c205 : t476 < 1000000000000
                           · rw [if_pos c205] at H
                             have c205b0 : decide (t476 < 1000000000000) = true := decide_eq_true c205
                             clear c205
                             replace H := Option.bind_eq_some_iff.mp H
                             obtain ⟨⟨t489, t490⟩, A2060, H⟩ := H
                             dsimp only at H
                             have A206 := Aside0.mk A2060
                             clear A2060
                             by_cases c207 : t477 < 0
                             · exact dead_ (if_pos c207) H hr_
                             rw [if_neg c207] at H
                             have c207b0 : decide (t477 < 0) = false := decide_eq_false c207
                             clear c207
                             by_cases c208 : t477 ≥ t475
                             · exact dead_ (if_pos c208) H hr_
                             rw [if_neg c208] at H
                             have c208b0 : decide (t475 ≤ t477) = false := decide_eq_false c208
                             clear c208
                             by_cases c209 : t490 = true
                             · subst c209
                               rw [if_pos rfl] at H
                               by_cases c210 : t475 = 0
                               · exact none_ (if_pos c210) H
                               rw [if_neg c210] at H
                               have c210b0 : (t475 == 0) = false := beq_eq_false_iff_ne.mpr c210
                               have c210b1 : (t475 != 0) = true := bne_iff_ne.mpr c210
                               by_cases c211 : t489 = (Int.tmod (wrap64 ((wrap64 (10 * t477)) + 1)) t475)
                               rotate_left
                               · exact dead_ (if_neg c211) H hr_
                               rw [if_pos c211] at H
                               have c211b0 : (t489 == (Int.tmod (wrap64 ((wrap64 (10 * t477)) + 1)) t475)) = true := beq_iff_eq.mpr c211
                               have c211b1 : (t489 != (Int.tmod (wrap64 ((wrap64 (10 * t477)) + 1)) t475)) = false := bne_eq_false_iff_eq.mpr c211
                               clear c211
                               as_aux_lemma =>
                                obtain rfl := Option.some.inj H
                                go_wp2_with (first | (go_at_call 31; (with_reducible refine (impl_RestOfOnes.calls k9 t475 (wrap64 (t476 + 1)) t489 true _ A206.out).mono ?_); rintro e w' ⟨rfl, ⟨nd, rfl⟩⟩; (try first | exact ⟨rfl, _, World.drewN_drewN _ _ _⟩ | exact ⟨rfl, _, Eq.trans (World.drewN_drewN _ _ _) (congrArg (World.drewN _) (Nat.add_assoc _ _ _))⟩)))
                                repeat (go_quiet (fail); try go_wp2_with (first | (go_at_call 31; (with_reducible refine (impl_RestOfOnes.calls k9 t475 (wrap64 (t476 + 1)) t489 true _ A206.out).mono ?_); rintro e w' ⟨rfl, ⟨nd, rfl⟩⟩; (try first | exact ⟨rfl, _, World.drewN_drewN _ _ _⟩ | exact ⟨rfl, _, Eq.trans (World.drewN_drewN _ _ _) (congrArg (World.drewN _) (Nat.add_assoc _ _ _))⟩))))
                                go_ret
                                exact ⟨by first | exact rfl | (simp [errW_none, errW_some] <;> rfl) | (simp [*, errW_none, errW_some] <;> rfl), by repeat (first | (with_reducible first | exact HB.out | apply below_alloc | apply pw_below_drewN | apply below_drew1) | exact HB.out)⟩
                             replace c209 := Bool.eq_false_iff.mpr c209
                             subst c209
                             rw [if_neg (show ¬ (false = true) by decide)] at H
                             as_aux_lemma =>
                              exact dead2_ H hr_
                           rw [if_neg c205] at H
                           have c205b0 : decide (t476 < 1000000000000) = false := decide_eq_false c205
                           clear c205
                           as_aux_lemma =>
                            obtain rfl := Option.some.inj H
                            go_wp2
                            repeat (go_quiet (fail); try go_wp2)
                            go_ret
                            exact ⟨by first | exact rfl | (simp [errW_none, errW_some] <;> rfl) | (simp [*, errW_none, errW_some] <;> rfl), by repeat (first | (with_reducible first | exact HB.out | apply below_alloc | apply pw_below_drewN | apply below_drew1) | exact HB.out)⟩
                         replace c204 := Bool.eq_false_iff.mpr c204
                         subst c204
                         rw [if_neg (show ¬ (false = true) by decide)] at H
                         as_aux_lemma =>
                          obtain rfl := Option.some.inj H
                          go_wp2
                          repeat (go_quiet (fail); try go_wp2)
                          go_ret
                          exact ⟨by first | exact rfl | (simp [errW_none, errW_some] <;> rfl) | (simp [*, errW_none, errW_some] <;> rfl), by repeat (first | (with_reducible first | exact HB.out | apply below_alloc | apply pw_below_drewN | apply below_drew1) | exact HB.out)⟩
                       rw [if_neg c199] at H
                       have c199b0 : decide (x72_9 < t471) = false := decide_eq_false c199
                       clear c199
                       as_aux_lemma =>
                       by_cases c212 : t478 = true
                       · subst c212
                         rw [if_pos rfl] at H
                         by_cases c213 : t476 < 1000000000000
                         · rw [if_pos c213] at H
                           have c213b0 : decide (t476 < 1000000000000) = true := decide_eq_true c213
                           clear c213
                           replace H := Option.bind_eq_some_iff.mp H
                           obtain ⟨⟨t491, t492⟩, A2140, H⟩ := H
                           dsimp only at H
                           have A214 := Aside0.mk A2140
                           clear A2140
                           by_cases c215 : t477 < 0
                           · exact dead_ (if_pos c215) H hr_
                           rw [if_neg c215] at H
                           have c215b0 : decide (t477 < 0) = false := decide_eq_false c215
                           clear c215
                           by_cases c216 : t477 ≥ t475
                           · exact dead_ (if_pos c216) H hr_
                           rw [if_neg c216] at H
                           have c216b0 : decide (t475 ≤ t477) = false := decide_eq_false c216
                           clear c216
                           by_cases c217 : t492 = true
                           · subst c217
                             rw [if_pos rfl] at H
                             by_cases c218 : t475 = 0
                             · exact none_ (if_pos c218) H
                             rw [if_neg c218] at H
                             have c218b0 : (t475 == 0) = false := beq_eq_false_iff_ne.mpr c218
                             have c218b1 : (t475 != 0) = true := bne_iff_ne.mpr c218
                             by_cases c219 : t491 = (Int.tmod (wrap64 ((wrap64 (10 * t477)) + 1)) t475)
                             rotate_left
                             · exact dead_ (if_neg c219) H hr_
                             rw [if_pos c219] at H
                             have c219b0 : (t491 == (Int.tmod (wrap64 ((wrap64 (10 * t477)) + 1)) t475)) = true := beq_iff_eq.mpr c219
                             have c219b1 : (t491 != (Int.tmod (wrap64 ((wrap64 (10 * t477)) + 1)) t475)) = false := bne_eq_false_iff_eq.mpr c219
                             clear c219
                             as_aux_lemma =>
                              obtain rfl := Option.some.inj H
                              go_wp2_with (first | (go_at_call 31; (with_reducible refine (impl_RestOfOnes.calls k9 t475 (wrap64 (t476 + 1)) t491 true _ A214.out).mono ?_); rintro e w' ⟨rfl, ⟨nd, rfl⟩⟩; (try first | exact ⟨rfl, _, World.drewN_drewN _ _ _⟩ | exact ⟨rfl, _, Eq.trans (World.drewN_drewN _ _ _) (congrArg (World.drewN _) (Nat.add_assoc _ _ _))⟩)))
                              repeat (go_quiet (fail); try go_wp2_with (first | (go_at_call 31; (with_reducible refine (impl_RestOfOnes.calls k9 t475 (wrap64 (t476 + 1)) t491 true _ A214.out).mono ?_); rintro e w' ⟨rfl, ⟨nd, rfl⟩⟩; (try first | exact ⟨rfl, _, World.drewN_drewN _ _ _⟩ | exact ⟨rfl, _, Eq.trans (World.drewN_drewN _ _ _) (congrArg (World.drewN _) (Nat.add_assoc _ _ _))⟩))))
                              go_ret
                              exact ⟨by first | exact rfl | (simp [errW_none, errW_some] <;> rfl) | (simp [*, errW_none, errW_some] <;> rfl), by repeat (first | (with_reducible first | exact HB.out | apply below_alloc | apply pw_below_drewN | apply below_drew1) | exact HB.out)⟩
                           replace c217 := Bool.eq_false_iff.mpr c217
                           subst c217
                           rw [if_neg (show ¬ (false = true) by decide)] at H
                           as_aux_lemma =>
                            exact dead2_ H hr_
                         rw [if_neg c213] at H
                         have c213b0 : decide (t476 < 1000000000000) = false := decide_eq_false c213
                         clear c213
                         as_aux_lemma =>
                          obtain rfl := Option.some.inj H
                          go_wp2
                          repeat (go_quiet (fail); try go_wp2)
                          go_ret
                          exact ⟨by first | exact rfl | (simp [errW_none, errW_some] <;> rfl) | (simp [*, errW_none, errW_some] <;> rfl), by repeat (first | (with_reducible first | exact HB.out | apply below_alloc | apply pw_below_drewN | apply below_drew1) | exact HB.out)⟩
                       replace c212 := Bool.eq_false_iff.mpr c212
                       subst c212
                       rw [if_neg (show ¬ (false = true) by decide)] at H
                       as_aux_lemma =>
                        obtain rfl := Option.some.inj H
                        go_wp2
                        repeat (go_quiet (fail); try go_wp2)
                        go_ret
                        exact ⟨by first | exact rfl | (simp [errW_none, errW_some] <;> rfl) | (simp [*, errW_none, errW_some] <;> rfl), by repeat (first | (with_reducible first | exact HB.out | apply below_alloc | apply pw_below_drewN | apply below_drew1) | exact HB.out)⟩
                   replace c197 := Bool.eq_false_iff.mpr c197
                   subst c197
                   rw [if_neg (show ¬ (false = true) by decide)] at H
                   as_aux_lemma =>
                    exact dead2_ H hr_
                 replace c193 := Bool.eq_false_iff.mpr c193
                 subst c193
                 rw [if_neg (show ¬ (false = true) by decide)] at H
                 as_aux_lemma =>
                 by_cases c220 : t478 = true
                 · subst c220
                   rw [if_pos rfl] at H
                   by_cases c221 : t476 < 1000000000000
                   · rw [if_pos c221] at H
                     have c221b0 : decide (t476 < 1000000000000) = true := decide_eq_true c221
                     clear c221
                     replace H := Option.bind_eq_some_iff.mp H
                     obtain ⟨⟨t493, t494⟩, A2220, H⟩ := H
                     dsimp only at H
                     have A222 := Aside0.mk A2220
                     clear A2220
                     by_cases c223 : t477 < 0
                     · exact dead_ (if_pos c223) H hr_
                     rw [if_neg c223] at H
                     have c223b0 : decide (t477 < 0) = false := decide_eq_false c223
                     clear c223
                     by_cases c224 : t477 ≥ t475
                     · exact dead_ (if_pos c224) H hr_
                     rw [if_neg c224] at H
                     have c224b0 : decide (t475 ≤ t477) = false := decide_eq_false c224
                     clear c224
                     by_cases c225 : t494 = true
                     · subst c225
                       rw [if_pos rfl] at H
                       by_cases c226 : t475 = 0
                       · exact none_ (if_pos c226) H
                       rw [if_neg c226] at H
                       have c226b0 : (t475 == 0) = false := beq_eq_false_iff_ne.mpr c226
                       have c226b1 : (t475 != 0) = true := bne_iff_ne.mpr c226
                       by_cases c227 : t493 = (Int.tmod (wrap64 ((wrap64 (10 * t477)) + 1)) t475)
                       rotate_left
                       · exact dead_ (if_neg c227) H hr_
                       rw [if_pos c227] at H
                       have c227b0 : (t493 == (Int.tmod (wrap64 ((wrap64 (10 * t477)) + 1)) t475)) = true := beq_iff_eq.mpr c227
                       have c227b1 : (t493 != (Int.tmod (wrap64 ((wrap64 (10 * t477)) + 1)) t475)) = false := bne_eq_false_iff_eq.mpr c227
                       clear c227
                       as_aux_lemma =>
                        obtain rfl := Option.some.inj H
                        go_wp2_with (first | (go_at_call 31; (with_reducible refine (impl_RestOfOnes.calls kj175 t475 (wrap64 (t476 + 1)) t493 true _ A222.out).mono ?_); rintro e w' ⟨rfl, ⟨nd, rfl⟩⟩; (try first | exact ⟨rfl, _, World.drewN_drewN _ _ _⟩ | exact ⟨rfl, _, Eq.trans (World.drewN_drewN _ _ _) (congrArg (World.drewN _) (Nat.add_assoc _ _ _))⟩)))
                        repeat (go_quiet (fail); try go_wp2_with (first | (go_at_call 31; (with_reducible refine (impl_RestOfOnes.calls kj175 t475 (wrap64 (t476 + 1)) t493 true _ A222.out).mono ?_); rintro e w' ⟨rfl, ⟨nd, rfl⟩⟩; (try first | exact ⟨rfl, _, World.drewN_drewN _ _ _⟩ | exact ⟨rfl, _, Eq.trans (World.drewN_drewN _ _ _) (congrArg (World.drewN _) (Nat.add_assoc _ _ _))⟩))))
                        go_ret
                        exact ⟨by first | exact rfl | (simp [errW_none, errW_some] <;> rfl) | (simp [*, errW_none, errW_some] <;> rfl), by repeat (first | (with_reducible first | exact HB.out | apply below_alloc | apply pw_below_drewN | apply below_drew1) | exact HB.out)⟩
                     replace c225 := Bool.eq_false_iff.mpr c225
                     subst c225
                     rw [if_neg (show ¬ (false = true) by decide)] at H
                     as_aux_lemma =>
                      exact dead2_ H hr_
                   rw [if_neg c221] at H
                   have c221b0 : decide (t476 < 1000000000000) = false := decide_eq_false c221
                   clear c221
                   as_aux_lemma =>
                    obtain rfl := Option.some.inj H
                    go_wp2
                    repeat (go_quiet (fail); try go_wp2)
                    go_ret
                    exact ⟨by first | exact rfl | (simp [errW_none, errW_some] <;> rfl) | (simp [*, errW_none, errW_some] <;> rfl), by repeat (first | (with_reducible first | exact HB.out | apply below_alloc | apply pw_below_drewN | apply below_drew1) | exact HB.out)⟩
                 replace c220 := Bool.eq_false_iff.mpr c220
                 subst c220
                 rw [if_neg (show ¬ (false = true) by decide)] at H
                 as_aux_lemma =>
                  obtain rfl := Option.some.inj H
                  go_wp2
                  repeat (go_quiet (fail); try go_wp2)
                  go_ret
                  exact ⟨by first | exact rfl | (simp [errW_none, errW_some] <;> rfl) | (simp [*, errW_none, errW_some] <;> rfl), by repeat (first | (with_reducible first | exact HB.out | apply below_alloc | apply pw_below_drewN | apply below_drew1) | exact HB.out)⟩

/-- THE ONE PURE STATEMENT of laws_FnLeastOfDigits: yours. -/
def laws_FnLeastOfDigits.Pure : Prop := ∀ (l0 : List Int) (l1 : List Int), l0.length ≤ maxLen → l0.length * 1 ≤ 140737488351232 → (∀ x ∈ l0, (Lit.int .u8 x).wf = true) → l1.length ≤ maxLen → l1.length * 1 ≤ 140737488351232 → (∀ x ∈ l1, (Lit.int .u8 x).wf = true) → ∃ k, laws_FnLeastOfDigits.f k l0 l1 = some true
theorem laws_FnLeastOfDigits.walk (P : laws_FnLeastOfDigits.Pure) (a0 : Option Addr) (len0 cap0 : Nat) (z0 : List Int) (a1 : Option Addr) (len1 cap1 : Nat) (z1 : List Int) (w : World) (hT : Shelf.TabOk w) (w0 : (a0 = none ∧ len0 = 0 ∧ cap0 = 0 ∧ z0 = []) ∨ ∃ x, a0 = some x ∧ len0 ≤ cap0 ∧ cap0 ≤ maxLen ∧ z0.length = cap0 ∧ (∀ i, i < z0.length → w.cell? (x.add i) = some (.int .u8 (z0.getD i 0))) ∧ ∀ n ∈ z0, (Lit.int .u8 n).wf = true) (y0 : len0 * 1 ≤ 140737488351232) (w1 : (a1 = none ∧ len1 = 0 ∧ cap1 = 0 ∧ z1 = []) ∨ ∃ x, a1 = some x ∧ len1 ≤ cap1 ∧ cap1 ≤ maxLen ∧ z1.length = cap1 ∧ (∀ i, i < z1.length → w.cell? (x.add i) = some (.int .u8 (z1.getD i 0))) ∧ ∀ n ∈ z1, (Lit.int .u8 n).wf = true) (y1 : len1 * 1 ≤ 140737488351232) :
 Calls Tryz.prog 3 #[.slice a0 len0 cap0, .slice a1 len1 cap1] w fun e w' => e = .returned (.bool true) ∧ Below w.heap.size w w' := by
 obtain ⟨l0, rfl, hr0, hm0, hw0, hc0⟩ := ReadsInt.ofRowC w0
 obtain ⟨l1, rfl, hr1, hm1, hw1, hc1⟩ := ReadsInt.ofRowC w1
 obtain ⟨k, h⟩ := P l0 l1 hm0 y0 hw0 hm1 y1 hw1
 refine (laws_FnLeastOfDigits.calls k _ _ l0 _ _ l1 true w hT (Kd.C_of_reads (d := (0 : Int)) (h1 := fun _ => rfl) hr0) hc0 (Kd.C_of_reads (d := (0 : Int)) (h1 := fun _ => rfl) hr1) hc1 (Aside0.mk rfl) h).mono ?_
 rintro e w' ⟨rfl, hd⟩
 exact ⟨rfl, hd⟩

end Go.Proofs.YtjnfaidngaobmaaGreatDoor.PFnLeastOfDigits

-- Laid by this session's program gprint.py over the kit's print.
import Derived.Test.YtjpbadckmackbaaGreatDoorPFnDigitsSummedx0
import Derived.Test.YtjpbadckmackbaaGreatDoorPFnDigitsSummedx1
import Derived.Test.YtjpbadckmackbaaGreatDoorPFnDigitsSummedx2
import Derived.Test.YtjpbadckmackbaaGreatDoorPFnDigitsSummedx4
import Derived.Test.YtjpbadckmackbaaGreatDoorPFnDigitsSummedx5
import Derived.Test.YtjpbadckmackbaaGreatDoorPFnDigitsSummedx6
import Derived.Test.YtjpbadckmackbaaGreatDoorPFnDigitsSummedx7
import Derived.Test.YtjpbadckmackbaaGreatDoorPFnDigitsSummedx8
namespace Go.Proofs.YtjpbadckmackbaaGreatDoor.PFnDigitsSummed
open Go.RowKit Go.Proofs.YtjpbadckmackbaaGreatDoorW.PrintWords Go.Proofs.YtjpbadckmackbaaGreatDoorW.PrintLast Go.Proofs.YtjpbadckmackbaaGreatDoorW.PrintMore
attribute [local go_sem] max2_int min2_int max_two min_two max_three min_three max_four min_four   -- for this text's walks alone
set_option linter.unusedVariables false
set_option linter.unusedSimpArgs false
theorem undef_bool_ {b : Bool} (h : some undef = some (Value.bool b)) : False := by cases h
theorem dead2_ {r : Bool} {P : Prop} (H : some false = some r) (h : Aside0 (r = true)) : P := Bool.noConfusion ((Option.some.inj H).trans h.out)
theorem z9_0_ {p : Prop} (h : p := by repeat (first | (with_reducible first | exact HB.out | apply below_alloc | apply pw_below_drewN | apply below_drew1) | exact HB.out)) : p := h
theorem z9_1_ {p : Prop} (h : p := by (try simp only [List.map_toArray, List.map_cons, List.map_nil]); first | done | rfl | (simp only [List.length_drop, List.length_take]; rfl)) : p := h
theorem z9_2_ {p : Prop} (h : p := by first | rfl | (simp; done) | (simp [*]; done)) : p := h

/-! ### laws_FnDigitsSummed: function 3 -/
mutual
def laws_FnDigitsSummed.j0 : Nat → List Int → Int → Int → Bool → Int → Bool → Int → Int → Int → Int → Int → Bool → Option (Bool)
 | 0, _, _, _, _, _, _, _, _, _, _, _, _ => none
 | k + 1, x1, x5, x6, x7, x10, x11, x14, x15, x20, x24, x25, x227 => if x227 = true then (some false) else (if x11 = true then (if (Int.tmod x10 9) = (Int.tmod x5 9) then (if (Int.tmod x14 9) = (Int.tmod x5 9) then (if x14 < 0 then (some false) else (if x14 > 9 then (some false) else (if ((x14 == 0) != (x5 == 0)) = true then (some false) else (if ((x15 == 0) != (decide (x5 < 10))) = true then (some false) else (if x24 < 0 then (some false) else (if x24 > 9 then (some false) else (if ((x25 == 0) != (decide (x5 < 10))) = true then (some false) else (if x5 > 9 then ((impl_DigitRoot.f k x10).bind fun bt344 => ((impl_ProductEnd.f k x20).bind fun bt347 => (if bt344.2.2 = true then (if bt344.1 = x14 then (if bt344.2.1 = (wrap64 (x15 - 1)) then (if bt347.2.2 = true then (if bt347.1 = x24 then (if bt347.2.1 = (wrap64 (x25 - 1)) then (laws_FnDigitsSummed.j1 k x1 x5 x6 x7 x10 x20) else (some false)) else (some false)) else (some false)) else (some false)) else (some false)) else (some false)))) else (laws_FnDigitsSummed.j1 k x1 x5 x6 x7 x10 x20))))))))) else (some false)) else (some false)) else (laws_FnDigitsSummed.j4 k x1 x5 x6 x7 x10))
def laws_FnDigitsSummed.j4 : Nat → List Int → Int → Int → Bool → Int → Option (Bool)
 | 0, _, _, _, _, _ => none
 | k + 1, x1, x5, x6, x7, x10 => if x7 = true then ((impl_DigitSum.f k x6).bind fun bt350 => ((impl_CountOfSum.f k x6 x10).bind fun bt352 => ((impl_CountOfSum.f k x5 x10).bind fun bt354 => (if x6 ≤ x5 then (some false) else (if bt350.2 = true then (if bt350.1 = x10 then (if bt352.2 = true then (if bt354.2 = true then (if bt352.1 = (wrap64 (bt354.1 + 1)) then ((impl_NumberOfSum.f k x10 bt354.1).bind fun bt356 => (if bt356.2 = true then (if bt356.1 = x6 then (laws_FnDigitsSummed.j5 k x1) else (some false)) else (some false))) else (some false)) else (some false)) else (some false)) else (some false)) else (some false)))))) else (laws_FnDigitsSummed.j5 k x1)
def laws_FnDigitsSummed.j5 : Nat → List Int → Option (Bool)
 | 0, _ => none
 | k + 1, x1 => (spec_DrawCountOfSum.f x1).bind fun bt358 => ((impl_CountOfSum.f k bt358.1 bt358.2).bind fun bt360 => ((spec_CountOfSum.f k bt358.1 bt358.2).bind fun bt362 => ((spec_DrawNumberOfSum.f x1).bind fun bt364 => ((impl_NumberOfSum.f k bt364.1 bt364.2).bind fun bt366 => ((spec_NumberOfSum.f k bt364.1 bt364.2).bind fun bt368 => ((spec_DrawCountWithout.f x1).bind fun bt370 => ((impl_CountWithout.f k bt370.1 bt370.2).bind fun bt372 => ((spec_CountWithout.f k bt370.1 bt370.2).bind fun bt374 => ((impl_CountOfCounter.f k bt370.1 bt370.2).bind fun bt376 => ((spec_CountOfCounter.f k bt370.1 bt370.2).bind fun bt378 => ((spec_DrawCounterShows.f x1).bind fun bt380 => ((impl_CounterShows.f k bt380.1 bt380.2).bind fun bt382 => ((spec_CounterShows.f k bt380.1 bt380.2).bind fun bt384 => (if (bt360.2 != bt362.2) = true then (laws_FnDigitsSummed.j6 k bt358.1 bt358.2 bt360.1 bt360.2 bt364.1 bt364.2 bt366.1 bt366.2 bt370.1 bt370.2 bt372.1 bt372.2 bt376.1 bt376.2 bt380.1 bt380.2 bt382.1 bt382.2 true) else (if bt360.1 = bt362.1 then (if (bt366.2 != bt368.2) = true then (laws_FnDigitsSummed.j6 k bt358.1 bt358.2 bt360.1 bt360.2 bt364.1 bt364.2 bt366.1 bt366.2 bt370.1 bt370.2 bt372.1 bt372.2 bt376.1 bt376.2 bt380.1 bt380.2 bt382.1 bt382.2 true) else (if bt366.1 = bt368.1 then (if (bt372.2 != bt374.2) = true then (laws_FnDigitsSummed.j6 k bt358.1 bt358.2 bt360.1 bt360.2 bt364.1 bt364.2 bt366.1 bt366.2 bt370.1 bt370.2 bt372.1 bt372.2 bt376.1 bt376.2 bt380.1 bt380.2 bt382.1 bt382.2 true) else (if bt372.1 = bt374.1 then (if (bt376.2 != bt378.2) = true then (laws_FnDigitsSummed.j6 k bt358.1 bt358.2 bt360.1 bt360.2 bt364.1 bt364.2 bt366.1 bt366.2 bt370.1 bt370.2 bt372.1 bt372.2 bt376.1 bt376.2 bt380.1 bt380.2 bt382.1 bt382.2 true) else (if bt376.1 = bt378.1 then (if (bt382.2 != bt384.2) = true then (laws_FnDigitsSummed.j6 k bt358.1 bt358.2 bt360.1 bt360.2 bt364.1 bt364.2 bt366.1 bt366.2 bt370.1 bt370.2 bt372.1 bt372.2 bt376.1 bt376.2 bt380.1 bt380.2 bt382.1 bt382.2 true) else (if bt382.1 = bt384.1 then (if bt376.2 = true then (laws_FnDigitsSummed.j6 k bt358.1 bt358.2 bt360.1 bt360.2 bt364.1 bt364.2 bt366.1 bt366.2 bt370.1 bt370.2 bt372.1 bt372.2 bt376.1 bt376.2 bt380.1 bt380.2 bt382.1 bt382.2 (!bt372.2)) else (laws_FnDigitsSummed.j6 k bt358.1 bt358.2 bt360.1 bt360.2 bt364.1 bt364.2 bt366.1 bt366.2 bt370.1 bt370.2 bt372.1 bt372.2 bt376.1 bt376.2 bt380.1 bt380.2 bt382.1 bt382.2 false)) else (laws_FnDigitsSummed.j6 k bt358.1 bt358.2 bt360.1 bt360.2 bt364.1 bt364.2 bt366.1 bt366.2 bt370.1 bt370.2 bt372.1 bt372.2 bt376.1 bt376.2 bt380.1 bt380.2 bt382.1 bt382.2 true))) else (laws_FnDigitsSummed.j6 k bt358.1 bt358.2 bt360.1 bt360.2 bt364.1 bt364.2 bt366.1 bt366.2 bt370.1 bt370.2 bt372.1 bt372.2 bt376.1 bt376.2 bt380.1 bt380.2 bt382.1 bt382.2 true))) else (laws_FnDigitsSummed.j6 k bt358.1 bt358.2 bt360.1 bt360.2 bt364.1 bt364.2 bt366.1 bt366.2 bt370.1 bt370.2 bt372.1 bt372.2 bt376.1 bt376.2 bt380.1 bt380.2 bt382.1 bt382.2 true))) else (laws_FnDigitsSummed.j6 k bt358.1 bt358.2 bt360.1 bt360.2 bt364.1 bt364.2 bt366.1 bt366.2 bt370.1 bt370.2 bt372.1 bt372.2 bt376.1 bt376.2 bt380.1 bt380.2 bt382.1 bt382.2 true))) else (laws_FnDigitsSummed.j6 k bt358.1 bt358.2 bt360.1 bt360.2 bt364.1 bt364.2 bt366.1 bt366.2 bt370.1 bt370.2 bt372.1 bt372.2 bt376.1 bt376.2 bt380.1 bt380.2 bt382.1 bt382.2 true))))))))))))))))
def laws_FnDigitsSummed.j6 : Nat → Int → Int → Int → Bool → Int → Int → Int → Bool → Int → Int → Int → Bool → Int → Bool → Int → Int → Int → Bool → Bool → Option (Bool)
 | 0, _, _, _, _, _, _, _, _, _, _, _, _, _, _, _, _, _, _, _ => none
 | k + 1, x47, x48, x49, x50, x53, x54, x55, x56, x59, x60, x61, x62, x65, x66, x69, x70, x71, x72, x531 => if x531 = true then (some false) else (if x50 = true then (laws_FnDigitsSummed.j7 k x47 x48 x49 x53 x54 x55 x56 x59 x60 x61 x62 x65 x66 x69 x70 x71 x72 (decide (x47 > 0))) else (laws_FnDigitsSummed.j7 k x47 x48 x49 x53 x54 x55 x56 x59 x60 x61 x62 x65 x66 x69 x70 x71 x72 false))
def laws_FnDigitsSummed.j7 : Nat → Int → Int → Int → Int → Int → Int → Bool → Int → Int → Int → Bool → Int → Bool → Int → Int → Int → Bool → Bool → Option (Bool)
 | 0, _, _, _, _, _, _, _, _, _, _, _, _, _, _, _, _, _, _ => none
 | k + 1, x47, x48, x49, x53, x54, x55, x56, x59, x60, x61, x62, x65, x66, x69, x70, x71, x72, x536 => if x536 = true then ((impl_CountOfSum.f k (wrap64 (x47 - 1)) x48).bind fun bt386 => ((impl_DigitSum.f k x47).bind fun bt388 => (if bt386.2 = true then (if bt388.2 = true then (if ((bt388.1 == x48) != (x49 == (wrap64 (bt386.1 + 1)))) = true then (some false) else (if bt388.1 = x48 then (if x48 = 0 then (if x49 = 0 then (laws_FnDigitsSummed.j8 k x53 x54 x55 x56 x59 x60 x61 x62 x65 x66 x69 x70 x71 x72) else (some false)) else (laws_FnDigitsSummed.j8 k x53 x54 x55 x56 x59 x60 x61 x62 x65 x66 x69 x70 x71 x72)) else (if x49 = bt386.1 then (if x48 = 0 then (if x49 = 0 then (laws_FnDigitsSummed.j8 k x53 x54 x55 x56 x59 x60 x61 x62 x65 x66 x69 x70 x71 x72) else (some false)) else (laws_FnDigitsSummed.j8 k x53 x54 x55 x56 x59 x60 x61 x62 x65 x66 x69 x70 x71 x72)) else (some false)))) else (some false)) else (some false)))) else (laws_FnDigitsSummed.j8 k x53 x54 x55 x56 x59 x60 x61 x62 x65 x66 x69 x70 x71 x72)
def laws_FnDigitsSummed.j8 : Nat → Int → Int → Int → Bool → Int → Int → Int → Bool → Int → Bool → Int → Int → Int → Bool → Option (Bool)
 | 0, _, _, _, _, _, _, _, _, _, _, _, _, _, _ => none
 | k + 1, x53, x54, x55, x56, x59, x60, x61, x62, x65, x66, x69, x70, x71, x72 => if x56 = true then ((impl_DigitSum.f k x55).bind fun bt390 => ((impl_CountOfSum.f k x55 x53).bind fun bt392 => (if bt390.2 = true then (if bt390.1 = x53 then (if bt392.2 = true then (if bt392.1 = (wrap64 (x54 + 1)) then (laws_FnDigitsSummed.j9 k x59 x60 x61 x62 x65 x66 x69 x70 x71 x72) else (some false)) else (some false)) else (some false)) else (some false)))) else (laws_FnDigitsSummed.j9 k x59 x60 x61 x62 x65 x66 x69 x70 x71 x72)
def laws_FnDigitsSummed.j9 : Nat → Int → Int → Int → Bool → Int → Bool → Int → Int → Int → Bool → Option (Bool)
 | 0, _, _, _, _, _, _, _, _, _, _ => none
 | k + 1, x59, x60, x61, x62, x65, x66, x69, x70, x71, x72 => if x62 = true then (laws_FnDigitsSummed.l2 k x59 x60 x61 x65 x66 x69 x70 x71 x72 (x59 == 0) x59) else (if x72 = true then ((impl_CountOfCounter.f k x71 x70).bind fun bt410 => (if bt410.2 = true then (if bt410.1 = x69 then (some (decide (x71 ≥ x69))) else (some false)) else (some false))) else (some true))
def laws_FnDigitsSummed.l2 : Nat → Int → Int → Int → Int → Bool → Int → Int → Int → Bool → Bool → Int → Option (Bool)
 | 0, _, _, _, _, _, _, _, _, _, _, _ => none
 | k + 1, x59, x60, x61, x65, x66, x69, x70, x71, x72, x83, x84 => if x84 > 0 then (if x83 = true then (laws_FnDigitsSummed.l2 k x59 x60 x61 x65 x66 x69 x70 x71 x72 true (wrap64 (Int.tdiv x84 10))) else (laws_FnDigitsSummed.l2 k x59 x60 x61 x65 x66 x69 x70 x71 x72 ((Int.tmod x84 10) == x60) (wrap64 (Int.tdiv x84 10)))) else (if (x66 == x83) = true then (some false) else (if x66 = true then (if x65 = x61 then (if x61 < 0 then (some false) else (if x61 > x59 then (some false) else (if x59 > 0 then ((impl_CountWithout.f k (wrap64 (x59 - 1)) x60).bind fun bt394 => (if bt394.2 = true then (if ((bt394.1 == x61) != x83) = true then (some false) else (if x83 = true then (if x72 = true then ((impl_CountOfCounter.f k x71 x70).bind fun bt396 => (if bt396.2 = true then (if bt396.1 = x69 then (some (decide (x71 ≥ x69))) else (some false)) else (some false))) else (some true)) else (if bt394.1 = (wrap64 (x61 - 1)) then (if x72 = true then ((impl_CountOfCounter.f k x71 x70).bind fun bt398 => (if bt398.2 = true then (if bt398.1 = x69 then (some (decide (x71 ≥ x69))) else (some false)) else (some false))) else (some true)) else (some false)))) else (some false))) else (if x72 = true then ((impl_CountOfCounter.f k x71 x70).bind fun bt400 => (if bt400.2 = true then (if bt400.1 = x69 then (some (decide (x71 ≥ x69))) else (some false)) else (some false))) else (some true))))) else (some false)) else (if x61 < 0 then (some false) else (if x61 > x59 then (some false) else (if x59 > 0 then ((impl_CountWithout.f k (wrap64 (x59 - 1)) x60).bind fun bt402 => (if bt402.2 = true then (if ((bt402.1 == x61) != x83) = true then (some false) else (if x83 = true then (if x72 = true then ((impl_CountOfCounter.f k x71 x70).bind fun bt404 => (if bt404.2 = true then (if bt404.1 = x69 then (some (decide (x71 ≥ x69))) else (some false)) else (some false))) else (some true)) else (if bt402.1 = (wrap64 (x61 - 1)) then (if x72 = true then ((impl_CountOfCounter.f k x71 x70).bind fun bt406 => (if bt406.2 = true then (if bt406.1 = x69 then (some (decide (x71 ≥ x69))) else (some false)) else (some false))) else (some true)) else (some false)))) else (some false))) else (if x72 = true then ((impl_CountOfCounter.f k x71 x70).bind fun bt408 => (if bt408.2 = true then (if bt408.1 = x69 then (some (decide (x71 ≥ x69))) else (some false)) else (some false))) else (some true)))))))
def laws_FnDigitsSummed.j1 : Nat → List Int → Int → Int → Bool → Int → Int → Option (Bool)
 | 0, _, _, _, _, _, _ => none
 | k + 1, x1, x5, x6, x7, x10, x20 => laws_FnDigitsSummed.l0 k x1 x5 x6 x7 x10 x20 1 x5
def laws_FnDigitsSummed.l0 : Nat → List Int → Int → Int → Bool → Int → Int → Int → Int → Option (Bool)
 | 0, _, _, _, _, _, _, _, _ => none
 | k + 1, x1, x5, x6, x7, x10, x20, x36, x37 => if x37 > 9 then (laws_FnDigitsSummed.l0 k x1 x5 x6 x7 x10 x20 (wrap64 (x36 * (Int.tmod x37 10))) (wrap64 (Int.tdiv x37 10))) else (laws_FnDigitsSummed.l1 k x1 x5 x6 x7 x10 x20 x36 x5)
def laws_FnDigitsSummed.l1 : Nat → List Int → Int → Int → Bool → Int → Int → Int → Int → Option (Bool)
 | 0, _, _, _, _, _, _, _, _ => none
 | k + 1, x1, x5, x6, x7, x10, x20, x36, x38 => if x38 < 10 then (if (wrap64 (x36 * x38)) = x20 then (laws_FnDigitsSummed.j4 k x1 x5 x6 x7 x10) else (some false)) else (laws_FnDigitsSummed.l1 k x1 x5 x6 x7 x10 x20 x36 (wrap64 (Int.tdiv x38 10)))
end
def laws_FnDigitsSummed.f (k : Nat) (l0 : List Int) (l1 : List Int) : Option (Bool) := (laws_big.f l0 l1).bind fun t318 => (if t318 = true then (some true) else ((spec_DrawNextOfSum.f l0).bind fun t319 => ((impl_NextOfSum.f k t319).bind fun bt320 => ((spec_NextOfSum.f k t319).bind fun bt322 => ((impl_DigitSum.f k t319).bind fun bt324 => ((spec_DigitSum.f k t319).bind fun bt326 => ((impl_DigitRoot.f k t319).bind fun bt328 => ((spec_DigitRoot.f k t319).bind fun bt331 => ((impl_DigitProduct.f k t319).bind fun bt334 => ((spec_DigitProduct.f k t319).bind fun bt336 => ((impl_ProductEnd.f k t319).bind fun bt338 => ((spec_ProductEnd.f k t319).bind fun bt341 => (if (bt320.2 != bt322.2) = true then (laws_FnDigitsSummed.j0 k l1 t319 bt320.1 bt320.2 bt324.1 bt324.2 bt328.1 bt328.2.1 bt334.1 bt338.1 bt338.2.1 true) else (if bt320.1 = bt322.1 then (if (bt324.2 != bt326.2) = true then (laws_FnDigitsSummed.j0 k l1 t319 bt320.1 bt320.2 bt324.1 bt324.2 bt328.1 bt328.2.1 bt334.1 bt338.1 bt338.2.1 true) else (if bt324.1 = bt326.1 then (if (bt328.2.2 != bt331.2.2) = true then (laws_FnDigitsSummed.j0 k l1 t319 bt320.1 bt320.2 bt324.1 bt324.2 bt328.1 bt328.2.1 bt334.1 bt338.1 bt338.2.1 true) else (if bt328.1 = bt331.1 then (if bt328.2.1 = bt331.2.1 then (if (bt334.2 != bt336.2) = true then (laws_FnDigitsSummed.j0 k l1 t319 bt320.1 bt320.2 bt324.1 bt324.2 bt328.1 bt328.2.1 bt334.1 bt338.1 bt338.2.1 true) else (if bt334.1 = bt336.1 then (if (bt338.2.2 != bt341.2.2) = true then (laws_FnDigitsSummed.j0 k l1 t319 bt320.1 bt320.2 bt324.1 bt324.2 bt328.1 bt328.2.1 bt334.1 bt338.1 bt338.2.1 true) else (if bt338.1 = bt341.1 then (if bt338.2.1 = bt341.2.1 then (if (bt328.2.2 != bt324.2) = true then (laws_FnDigitsSummed.j0 k l1 t319 bt320.1 bt320.2 bt324.1 bt324.2 bt328.1 bt328.2.1 bt334.1 bt338.1 bt338.2.1 true) else (if (bt334.2 != bt324.2) = true then (laws_FnDigitsSummed.j0 k l1 t319 bt320.1 bt320.2 bt324.1 bt324.2 bt328.1 bt328.2.1 bt334.1 bt338.1 bt338.2.1 true) else (if (bt338.2.2 != bt324.2) = true then (laws_FnDigitsSummed.j0 k l1 t319 bt320.1 bt320.2 bt324.1 bt324.2 bt328.1 bt328.2.1 bt334.1 bt338.1 bt338.2.1 true) else (if bt320.2 = true then (laws_FnDigitsSummed.j0 k l1 t319 bt320.1 bt320.2 bt324.1 bt324.2 bt328.1 bt328.2.1 bt334.1 bt338.1 bt338.2.1 (!bt324.2)) else (laws_FnDigitsSummed.j0 k l1 t319 bt320.1 bt320.2 bt324.1 bt324.2 bt328.1 bt328.2.1 bt334.1 bt338.1 bt338.2.1 false))))) else (laws_FnDigitsSummed.j0 k l1 t319 bt320.1 bt320.2 bt324.1 bt324.2 bt328.1 bt328.2.1 bt334.1 bt338.1 bt338.2.1 true)) else (laws_FnDigitsSummed.j0 k l1 t319 bt320.1 bt320.2 bt324.1 bt324.2 bt328.1 bt328.2.1 bt334.1 bt338.1 bt338.2.1 true))) else (laws_FnDigitsSummed.j0 k l1 t319 bt320.1 bt320.2 bt324.1 bt324.2 bt328.1 bt328.2.1 bt334.1 bt338.1 bt338.2.1 true))) else (laws_FnDigitsSummed.j0 k l1 t319 bt320.1 bt320.2 bt324.1 bt324.2 bt328.1 bt328.2.1 bt334.1 bt338.1 bt338.2.1 true)) else (laws_FnDigitsSummed.j0 k l1 t319 bt320.1 bt320.2 bt324.1 bt324.2 bt328.1 bt328.2.1 bt334.1 bt338.1 bt338.2.1 true))) else (laws_FnDigitsSummed.j0 k l1 t319 bt320.1 bt320.2 bt324.1 bt324.2 bt328.1 bt328.2.1 bt334.1 bt338.1 bt338.2.1 true))) else (laws_FnDigitsSummed.j0 k l1 t319 bt320.1 bt320.2 bt324.1 bt324.2 bt328.1 bt328.2.1 bt334.1 bt338.1 bt338.2.1 true)))))))))))))))
theorem laws_FnDigitsSummed.j0_dead {k : Nat} {x1 : List Int} {x5 : Int} {x6 : Int} {x7 : Bool} {x10 : Int} {x11 : Bool} {x14 : Int} {x15 : Int} {x20 : Int} {x24 : Int} {x25 : Int} {r : Bool} {P : Prop} (H : laws_FnDigitsSummed.j0 k x1 x5 x6 x7 x10 x11 x14 x15 x20 x24 x25 true = some r) (h : Aside0 (r = true)) : P := by
 cases k with
 | zero => exact none_ (by simp only [laws_FnDigitsSummed.j0]) H
 | succ k => exact dead_ (by simp only [laws_FnDigitsSummed.j0]; first | exact if_pos rfl | exact if_pos trivial) H h
theorem laws_FnDigitsSummed.j6_dead {k : Nat} {x47 : Int} {x48 : Int} {x49 : Int} {x50 : Bool} {x53 : Int} {x54 : Int} {x55 : Int} {x56 : Bool} {x59 : Int} {x60 : Int} {x61 : Int} {x62 : Bool} {x65 : Int} {x66 : Bool} {x69 : Int} {x70 : Int} {x71 : Int} {x72 : Bool} {r : Bool} {P : Prop} (H : laws_FnDigitsSummed.j6 k x47 x48 x49 x50 x53 x54 x55 x56 x59 x60 x61 x62 x65 x66 x69 x70 x71 x72 true = some r) (h : Aside0 (r = true)) : P := by
 cases k with
 | zero => exact none_ (by simp only [laws_FnDigitsSummed.j6]) H
 | succ k => exact dead_ (by simp only [laws_FnDigitsSummed.j6]; first | exact if_pos rfl | exact if_pos trivial) H h
set_option maxHeartbeats 64000000 in
set_option maxRecDepth 100000 in
theorem laws_FnDigitsSummed.calls (k : Nat) (A0 : Option Addr) (c0 : Nat) (l0 : List Int) (A1 : Option Addr) (c1 : Nat) (l1 : List Int) (r : Bool) (w : World) (hT : Shelf.TabOk w) (hr0 : Kd.C (Kd.int .u8) w A0 l0.length l0) (hc0 : l0.length ≤ c0) (hr1 : Kd.C (Kd.int .u8) w A1 l1.length l1) (hc1 : l1.length ≤ c1) (hr_ : Aside0 (r = true)) (h : laws_FnDigitsSummed.f k l0 l1 = some r) :
 Calls Tryz.prog 3 #[.slice A0 l0.length c0, .slice A1 l1.length c1] w fun e w' => e = .returned (.bool r) ∧ Below w.heap.size w w' := by
 have HR0 := Aside0.mk hr0
 have HC0 := Aside0.mk hc0
 clear hr0 hc0
 have HR1 := Aside0.mk hr1
 have HC1 := Aside0.mk hc1
 clear hr1 hc1
 have HT := Aside0.mk hT
 clear hT
 have HB := Aside0.mk (Below.refl w.heap.size w)
 have H : ((laws_big.f l0 l1).bind fun t318 => (if t318 = true then (some true) else ((spec_DrawNextOfSum.f l0).bind fun t319 => ((impl_NextOfSum.f k t319).bind fun bt320 => ((spec_NextOfSum.f k t319).bind fun bt322 => ((impl_DigitSum.f k t319).bind fun bt324 => ((spec_DigitSum.f k t319).bind fun bt326 => ((impl_DigitRoot.f k t319).bind fun bt328 => ((spec_DigitRoot.f k t319).bind fun bt331 => ((impl_DigitProduct.f k t319).bind fun bt334 => ((spec_DigitProduct.f k t319).bind fun bt336 => ((impl_ProductEnd.f k t319).bind fun bt338 => ((spec_ProductEnd.f k t319).bind fun bt341 => (if (bt320.2 != bt322.2) = true then (laws_FnDigitsSummed.j0 k l1 t319 bt320.1 bt320.2 bt324.1 bt324.2 bt328.1 bt328.2.1 bt334.1 bt338.1 bt338.2.1 true) else (if bt320.1 = bt322.1 then (if (bt324.2 != bt326.2) = true then (laws_FnDigitsSummed.j0 k l1 t319 bt320.1 bt320.2 bt324.1 bt324.2 bt328.1 bt328.2.1 bt334.1 bt338.1 bt338.2.1 true) else (if bt324.1 = bt326.1 then (if (bt328.2.2 != bt331.2.2) = true then (laws_FnDigitsSummed.j0 k l1 t319 bt320.1 bt320.2 bt324.1 bt324.2 bt328.1 bt328.2.1 bt334.1 bt338.1 bt338.2.1 true) else (if bt328.1 = bt331.1 then (if bt328.2.1 = bt331.2.1 then (if (bt334.2 != bt336.2) = true then (laws_FnDigitsSummed.j0 k l1 t319 bt320.1 bt320.2 bt324.1 bt324.2 bt328.1 bt328.2.1 bt334.1 bt338.1 bt338.2.1 true) else (if bt334.1 = bt336.1 then (if (bt338.2.2 != bt341.2.2) = true then (laws_FnDigitsSummed.j0 k l1 t319 bt320.1 bt320.2 bt324.1 bt324.2 bt328.1 bt328.2.1 bt334.1 bt338.1 bt338.2.1 true) else (if bt338.1 = bt341.1 then (if bt338.2.1 = bt341.2.1 then (if (bt328.2.2 != bt324.2) = true then (laws_FnDigitsSummed.j0 k l1 t319 bt320.1 bt320.2 bt324.1 bt324.2 bt328.1 bt328.2.1 bt334.1 bt338.1 bt338.2.1 true) else (if (bt334.2 != bt324.2) = true then (laws_FnDigitsSummed.j0 k l1 t319 bt320.1 bt320.2 bt324.1 bt324.2 bt328.1 bt328.2.1 bt334.1 bt338.1 bt338.2.1 true) else (if (bt338.2.2 != bt324.2) = true then (laws_FnDigitsSummed.j0 k l1 t319 bt320.1 bt320.2 bt324.1 bt324.2 bt328.1 bt328.2.1 bt334.1 bt338.1 bt338.2.1 true) else (if bt320.2 = true then (laws_FnDigitsSummed.j0 k l1 t319 bt320.1 bt320.2 bt324.1 bt324.2 bt328.1 bt328.2.1 bt334.1 bt338.1 bt338.2.1 (!bt324.2)) else (laws_FnDigitsSummed.j0 k l1 t319 bt320.1 bt320.2 bt324.1 bt324.2 bt328.1 bt328.2.1 bt334.1 bt338.1 bt338.2.1 false))))) else (laws_FnDigitsSummed.j0 k l1 t319 bt320.1 bt320.2 bt324.1 bt324.2 bt328.1 bt328.2.1 bt334.1 bt338.1 bt338.2.1 true)) else (laws_FnDigitsSummed.j0 k l1 t319 bt320.1 bt320.2 bt324.1 bt324.2 bt328.1 bt328.2.1 bt334.1 bt338.1 bt338.2.1 true))) else (laws_FnDigitsSummed.j0 k l1 t319 bt320.1 bt320.2 bt324.1 bt324.2 bt328.1 bt328.2.1 bt334.1 bt338.1 bt338.2.1 true))) else (laws_FnDigitsSummed.j0 k l1 t319 bt320.1 bt320.2 bt324.1 bt324.2 bt328.1 bt328.2.1 bt334.1 bt338.1 bt338.2.1 true)) else (laws_FnDigitsSummed.j0 k l1 t319 bt320.1 bt320.2 bt324.1 bt324.2 bt328.1 bt328.2.1 bt334.1 bt338.1 bt338.2.1 true))) else (laws_FnDigitsSummed.j0 k l1 t319 bt320.1 bt320.2 bt324.1 bt324.2 bt328.1 bt328.2.1 bt334.1 bt338.1 bt338.2.1 true))) else (laws_FnDigitsSummed.j0 k l1 t319 bt320.1 bt320.2 bt324.1 bt324.2 bt328.1 bt328.2.1 bt334.1 bt338.1 bt338.2.1 true)))))))))))))))) = some r := h
 clear h
 replace H := Option.bind_eq_some_iff.mp H
 obtain ⟨t318, A30, H⟩ := H
 have A3 := Aside0.mk A30
 clear A30
 by_cases c4 : t318 = true
 · subst c4
   rw [if_pos rfl] at H
   as_aux_lemma =>
    obtain rfl := Option.some.inj H
    go_enter Tryz.func3, Tryz.ntmps3
    go_wp2_with (first | ((with_reducible refine gate_callee (f := 4) rfl ?_); refine goesL_ (some 91) rfl rfl Tryz.func4 (by kernel_rfl) rfl #[.slice A0 l0.length c0, .slice A1 l1.length c1] rfl z9_1_ ?_; (with_reducible refine (laws_big.calls _ _ l0 _ _ l1 true _ ?side1 ?side2 ?side3 ?side4 A3.out).mono ?_); (case side1 => repeat (first | exact HR0.out | (with_reducible refine Kd.C_alloc ?_ _) | (with_reducible refine Kd.C_drewN ?_ _) | (with_reducible refine Kd.C_drew ?_))); (case side2 => exact HC0.out); (case side3 => repeat (first | exact HR1.out | (with_reducible refine Kd.C_alloc ?_ _) | (with_reducible refine Kd.C_drewN ?_ _) | (with_reducible refine Kd.C_drew ?_))); (case side4 => exact HC1.out); rintro e w' ⟨rfl, ⟨nd, rfl⟩⟩; refine ⟨_, rfl, ?_⟩))
    go_ret
    exact ⟨by first | exact rfl | (simp [errW_none, errW_some] <;> rfl) | (simp [*, errW_none, errW_some] <;> rfl), by repeat (first | (with_reducible first | exact HB.out | apply below_alloc | apply pw_below_drewN | apply below_drew1) | exact HB.out)⟩
 replace c4 := Bool.eq_false_iff.mpr c4
 subst c4
 rw [if_neg (show ¬ (false = true) by decide)] at H
 as_aux_lemma =>
 replace H := Option.bind_eq_some_iff.mp H
 obtain ⟨t319, A50, H⟩ := H
 have A5 := Aside0.mk A50
 clear A50
 replace H := Option.bind_eq_some_iff.mp H
 obtain ⟨⟨t320, t321⟩, A60, H⟩ := H
 dsimp only at H
 have A6 := Aside0.mk A60
 clear A60
 replace H := Option.bind_eq_some_iff.mp H
 obtain ⟨⟨t322, t323⟩, A70, H⟩ := H
 dsimp only at H
 have A7 := Aside0.mk A70
 clear A70
 replace H := Option.bind_eq_some_iff.mp H
 obtain ⟨⟨t324, t325⟩, A80, H⟩ := H
 dsimp only at H
 have A8 := Aside0.mk A80
 clear A80
 replace H := Option.bind_eq_some_iff.mp H
 obtain ⟨⟨t326, t327⟩, A90, H⟩ := H
 dsimp only at H
 have A9 := Aside0.mk A90
 clear A90
 replace H := Option.bind_eq_some_iff.mp H
 obtain ⟨⟨t328, t329, t330⟩, A100, H⟩ := H
 dsimp only at H
 have A10 := Aside0.mk A100
 clear A100
 as_aux_lemma =>
 replace H := Option.bind_eq_some_iff.mp H
 obtain ⟨⟨t331, t332, t333⟩, A110, H⟩ := H
 dsimp only at H
 have A11 := Aside0.mk A110
 clear A110
 replace H := Option.bind_eq_some_iff.mp H
 obtain ⟨⟨t334, t335⟩, A120, H⟩ := H
 dsimp only at H
 have A12 := Aside0.mk A120
 clear A120
 replace H := Option.bind_eq_some_iff.mp H
 obtain ⟨⟨t336, t337⟩, A130, H⟩ := H
 dsimp only at H
 have A13 := Aside0.mk A130
 clear A130
 replace H := Option.bind_eq_some_iff.mp H
 obtain ⟨⟨t338, t339, t340⟩, A140, H⟩ := H
 dsimp only at H
 have A14 := Aside0.mk A140
 clear A140
 replace H := Option.bind_eq_some_iff.mp H
 obtain ⟨⟨t341, t342, t343⟩, A150, H⟩ := H
 dsimp only at H
 have A15 := Aside0.mk A150
 clear A150
 have HC16 := Aside0.mk H
 clear H
 go_enter Tryz.func3, Tryz.ntmps3
 go_upto_region 14 with (first | ((with_reducible refine gate_callee (f := 4) rfl ?_); refine goesL_ (some 91) rfl rfl Tryz.func4 (by kernel_rfl) rfl #[.slice A0 l0.length c0, .slice A1 l1.length c1] rfl z9_1_ ?_; (with_reducible refine (laws_big.calls _ _ l0 _ _ l1 false _ ?side1 ?side2 ?side3 ?side4 A3.out).mono ?_); (case side1 => repeat (first | exact HR0.out | (with_reducible refine Kd.C_alloc ?_ _) | (with_reducible refine Kd.C_drewN ?_ _) | (with_reducible refine Kd.C_drew ?_))); (case side2 => exact HC0.out); (case side3 => repeat (first | exact HR1.out | (with_reducible refine Kd.C_alloc ?_ _) | (with_reducible refine Kd.C_drewN ?_ _) | (with_reducible refine Kd.C_drew ?_))); (case side4 => exact HC1.out); rintro e w' ⟨rfl, ⟨nd, rfl⟩⟩; refine ⟨_, rfl, ?_⟩) | ((with_reducible refine gate_callee (f := 5) rfl ?_); refine goesL_ (some 93) rfl rfl Tryz.func5 (by kernel_rfl) rfl #[.slice A0 l0.length c0] rfl z9_1_ ?_; (with_reducible refine (spec_DrawNextOfSum.calls _ _ l0 t319 _ ?side1 ?side2 A5.out).mono ?_); (case side1 => repeat (first | exact HR0.out | (with_reducible refine Kd.C_alloc ?_ _) | (with_reducible refine Kd.C_drewN ?_ _) | (with_reducible refine Kd.C_drew ?_))); (case side2 => exact HC0.out); rintro e w17 ⟨rfl, hb⟩; refine ⟨_, rfl, ?_⟩; have n0_ := Aside0.mk (below_step z9_0_ hb); clear HB; have HB := n0_; clear n0_; (try clear hb); (try clear hb2); (try clear hk); (try clear hi)) | ((with_reducible refine gate_callee (f := 6) rfl ?_); refine goesL_ (some 96) rfl rfl Tryz.func6 (by kernel_rfl) rfl #[.int .i64 t319] rfl z9_1_ ?_; (with_reducible refine (impl_NextOfSum.calls k t319 t320 t321 _ ?side1 A6.out).mono ?_); (case side1 => exact Shelf.TabOk.below HT.out z9_0_); rintro e w18 ⟨rfl, hb⟩; refine ⟨_, rfl, ?_⟩; have n0_ := Aside0.mk (below_step z9_0_ hb); clear HB; have HB := n0_; clear n0_; (try clear hb); (try clear hb2); (try clear hk); (try clear hi)) | ((with_reducible refine gate_callee (f := 7) rfl ?_); refine goesL_ (some 101) rfl rfl Tryz.func7 (by kernel_rfl) rfl #[.int .i64 t319] rfl z9_1_ ?_; (with_reducible refine (spec_NextOfSum.calls k t319 t322 t323 _ A7.out).mono ?_); rintro e w19 ⟨rfl, hb⟩; refine ⟨_, rfl, ?_⟩; have n0_ := Aside0.mk (below_step z9_0_ hb); clear HB; have HB := n0_; clear n0_; (try clear hb); (try clear hb2); (try clear hk); (try clear hi)) | ((with_reducible refine gate_callee (f := 8) rfl ?_); refine goesL_ (some 106) rfl rfl Tryz.func8 (by kernel_rfl) rfl #[.int .i64 t319] rfl z9_1_ ?_; (with_reducible refine (impl_DigitSum.calls k t319 t324 t325 _ ?side1 A8.out).mono ?_); (case side1 => exact Shelf.TabOk.below HT.out z9_0_); rintro e w20 ⟨rfl, hb⟩; refine ⟨_, rfl, ?_⟩; have n0_ := Aside0.mk (below_step z9_0_ hb); clear HB; have HB := n0_; clear n0_; (try clear hb); (try clear hb2); (try clear hk); (try clear hi)) | ((with_reducible refine gate_callee (f := 9) rfl ?_); refine goesL_ (some 111) rfl rfl Tryz.func9 (by kernel_rfl) rfl #[.int .i64 t319] rfl z9_1_ ?_; (with_reducible refine (spec_DigitSum.calls k t319 t326 t327 _ A9.out).mono ?_); rintro e w21 ⟨rfl, hb⟩; refine ⟨_, rfl, ?_⟩; have n0_ := Aside0.mk (below_step z9_0_ hb); clear HB; have HB := n0_; clear n0_; (try clear hb); (try clear hb2); (try clear hk); (try clear hi)) | ((with_reducible refine gate_callee (f := 10) rfl ?_); refine goesL_ (some 116) rfl rfl Tryz.func10 (by kernel_rfl) rfl #[.int .i64 t319] rfl z9_1_ ?_; (with_reducible refine (impl_DigitRoot.calls k t319 t328 t329 t330 _ ?side1 A10.out).mono ?_); (case side1 => exact Shelf.TabOk.below HT.out z9_0_); rintro e w22 ⟨rfl, hb⟩; refine ⟨_, rfl, ?_⟩; have n0_ := Aside0.mk (below_step z9_0_ hb); clear HB; have HB := n0_; clear n0_; (try clear hb); (try clear hb2); (try clear hk); (try clear hi)) | ((with_reducible refine gate_callee (f := 11) rfl ?_); refine goesL_ (some 122) rfl rfl Tryz.func11 (by kernel_rfl) rfl #[.int .i64 t319] rfl z9_1_ ?_; (with_reducible refine (spec_DigitRoot.calls k t319 t331 t332 t333 _ A11.out).mono ?_); rintro e w23 ⟨rfl, hb⟩; refine ⟨_, rfl, ?_⟩; have n0_ := Aside0.mk (below_step z9_0_ hb); clear HB; have HB := n0_; clear n0_; (try clear hb); (try clear hb2); (try clear hk); (try clear hi)) | ((with_reducible refine gate_callee (f := 12) rfl ?_); refine goesL_ (some 128) rfl rfl Tryz.func12 (by kernel_rfl) rfl #[.int .i64 t319] rfl z9_1_ ?_; (with_reducible refine (impl_DigitProduct.calls k t319 t334 t335 _ ?side1 A12.out).mono ?_); (case side1 => exact Shelf.TabOk.below HT.out z9_0_); rintro e w24 ⟨rfl, hb⟩; refine ⟨_, rfl, ?_⟩; have n0_ := Aside0.mk (below_step z9_0_ hb); clear HB; have HB := n0_; clear n0_; (try clear hb); (try clear hb2); (try clear hk); (try clear hi)) | ((with_reducible refine gate_callee (f := 13) rfl ?_); refine goesL_ (some 133) rfl rfl Tryz.func13 (by kernel_rfl) rfl #[.int .i64 t319] rfl z9_1_ ?_; (with_reducible refine (spec_DigitProduct.calls k t319 t336 t337 _ A13.out).mono ?_); rintro e w25 ⟨rfl, hb⟩; refine ⟨_, rfl, ?_⟩; have n0_ := Aside0.mk (below_step z9_0_ hb); clear HB; have HB := n0_; clear n0_; (try clear hb); (try clear hb2); (try clear hk); (try clear hi)) | ((with_reducible refine gate_callee (f := 14) rfl ?_); refine goesL_ (some 138) rfl rfl Tryz.func14 (by kernel_rfl) rfl #[.int .i64 t319] rfl z9_1_ ?_; (with_reducible refine (impl_ProductEnd.calls k t319 t338 t339 t340 _ ?side1 A14.out).mono ?_); (case side1 => exact Shelf.TabOk.below HT.out z9_0_); rintro e w26 ⟨rfl, hb⟩; refine ⟨_, rfl, ?_⟩; have n0_ := Aside0.mk (below_step z9_0_ hb); clear HB; have HB := n0_; clear n0_; (try clear hb); (try clear hb2); (try clear hk); (try clear hi)) | ((with_reducible refine gate_callee (f := 15) rfl ?_); refine goesL_ (some 144) rfl rfl Tryz.func15 (by kernel_rfl) rfl #[.int .i64 t319] rfl z9_1_ ?_; (with_reducible refine (spec_ProductEnd.calls k t319 t341 t342 t343 _ A15.out).mono ?_); rintro e w27 ⟨rfl, hb⟩; refine ⟨_, rfl, ?_⟩; have n0_ := Aside0.mk (below_step z9_0_ hb); clear HB; have HB := n0_; clear n0_; (try clear hb); (try clear hb2); (try clear hk); (try clear hi)))
 (try simp only [Act.put, List.setIfInBounds_toArray, List.set_cons_zero, List.set_cons_succ])
 go_cut [227] from 89 to 227 (fun v227 wc => ∃ (kq : Nat) (x227_15 : Bool), v227 = .bool x227_15 ∧ Aside0 (laws_FnDigitsSummed.j0 kq l1 t319 t320 t321 t324 t325 t328 t329 t334 t338 t339 x227_15 = some r) ∧ Aside0 (kq ≤ k) ∧ Aside0 (Below w.heap.size w wc))
 case first =>
  as_aux_lemma =>
  have H := HC16.out
  clear HC16
  by_cases c28 : (t321 != t323) = true
  · exact laws_FnDigitsSummed.j0_dead ((if_pos c28).symm.trans H) hr_
  rw [if_neg c28] at H
  have c28b0 : (t321 != t323) = false := by simpa using c28
  (try (have c28b1 : decide (t321 = t323) = true := by simpa using c28))
  (try (have c28b2 : (t321 == t323) = true := by simpa using c28))
  clear c28
  (first | rw [c28b0] | (simp only [i64_w, i32_w]; rw [c28b0]) | skip)
  by_cases c29 : t320 = t322
  rotate_left
  · exact laws_FnDigitsSummed.j0_dead ((if_neg c29).symm.trans H) hr_
  rw [if_pos c29] at H
  have c29b0 : (t320 == t322) = true := beq_iff_eq.mpr c29
  have c29b1 : (t320 != t322) = false := bne_eq_false_iff_eq.mpr c29
  clear c29
  by_cases c30 : (t325 != t327) = true
  · exact laws_FnDigitsSummed.j0_dead ((if_pos c30).symm.trans H) hr_
  rw [if_neg c30] at H
  have c30b0 : (t325 != t327) = false := by simpa using c30
  (try (have c30b1 : decide (t325 = t327) = true := by simpa using c30))
  (try (have c30b2 : (t325 == t327) = true := by simpa using c30))
  clear c30
  by_cases c31 : t324 = t326
  rotate_left
  · exact laws_FnDigitsSummed.j0_dead ((if_neg c31).symm.trans H) hr_
  rw [if_pos c31] at H
  have c31b0 : (t324 == t326) = true := beq_iff_eq.mpr c31
  have c31b1 : (t324 != t326) = false := bne_eq_false_iff_eq.mpr c31
  clear c31
  as_aux_lemma =>
  by_cases c32 : (t330 != t333) = true
  · exact laws_FnDigitsSummed.j0_dead ((if_pos c32).symm.trans H) hr_
  rw [if_neg c32] at H
  have c32b0 : (t330 != t333) = false := by simpa using c32
  (try (have c32b1 : decide (t330 = t333) = true := by simpa using c32))
  (try (have c32b2 : (t330 == t333) = true := by simpa using c32))
  clear c32
  by_cases c33 : t328 = t331
  rotate_left
  · exact laws_FnDigitsSummed.j0_dead ((if_neg c33).symm.trans H) hr_
  rw [if_pos c33] at H
  have c33b0 : (t328 == t331) = true := beq_iff_eq.mpr c33
  have c33b1 : (t328 != t331) = false := bne_eq_false_iff_eq.mpr c33
  clear c33
  by_cases c34 : t329 = t332
  rotate_left
  · exact laws_FnDigitsSummed.j0_dead ((if_neg c34).symm.trans H) hr_
  rw [if_pos c34] at H
  have c34b0 : (t329 == t332) = true := beq_iff_eq.mpr c34
  have c34b1 : (t329 != t332) = false := bne_eq_false_iff_eq.mpr c34
  clear c34
  by_cases c35 : (t335 != t337) = true
  · exact laws_FnDigitsSummed.j0_dead ((if_pos c35).symm.trans H) hr_
  rw [if_neg c35] at H
  have c35b0 : (t335 != t337) = false := by simpa using c35
  (try (have c35b1 : decide (t335 = t337) = true := by simpa using c35))
  (try (have c35b2 : (t335 == t337) = true := by simpa using c35))
  clear c35
  as_aux_lemma =>
  by_cases c36 : t334 = t336
  rotate_left
  · exact laws_FnDigitsSummed.j0_dead ((if_neg c36).symm.trans H) hr_
  rw [if_pos c36] at H
  have c36b0 : (t334 == t336) = true := beq_iff_eq.mpr c36
  have c36b1 : (t334 != t336) = false := bne_eq_false_iff_eq.mpr c36
  clear c36
  by_cases c37 : (t340 != t343) = true
  · exact laws_FnDigitsSummed.j0_dead ((if_pos c37).symm.trans H) hr_
  rw [if_neg c37] at H
  have c37b0 : (t340 != t343) = false := by simpa using c37
  (try (have c37b1 : decide (t340 = t343) = true := by simpa using c37))
  (try (have c37b2 : (t340 == t343) = true := by simpa using c37))
  clear c37
  by_cases c38 : t338 = t341
  rotate_left
  · exact laws_FnDigitsSummed.j0_dead ((if_neg c38).symm.trans H) hr_
  rw [if_pos c38] at H
  have c38b0 : (t338 == t341) = true := beq_iff_eq.mpr c38
  have c38b1 : (t338 != t341) = false := bne_eq_false_iff_eq.mpr c38
  clear c38
  by_cases c39 : t339 = t342
  rotate_left
  · exact laws_FnDigitsSummed.j0_dead ((if_neg c39).symm.trans H) hr_
  rw [if_pos c39] at H
  have c39b0 : (t339 == t342) = true := beq_iff_eq.mpr c39
  have c39b1 : (t339 != t342) = false := bne_eq_false_iff_eq.mpr c39
  clear c39
  as_aux_lemma =>
  by_cases c40 : (t330 != t325) = true
  · exact laws_FnDigitsSummed.j0_dead ((if_pos c40).symm.trans H) hr_
  rw [if_neg c40] at H
  have c40b0 : (t330 != t325) = false := by simpa using c40
  (try (have c40b1 : decide (t330 = t325) = true := by simpa using c40))
  (try (have c40b2 : (t330 == t325) = true := by simpa using c40))
  clear c40
  by_cases c41 : (t335 != t325) = true
  · exact laws_FnDigitsSummed.j0_dead ((if_pos c41).symm.trans H) hr_
  rw [if_neg c41] at H
  have c41b0 : (t335 != t325) = false := by simpa using c41
  (try (have c41b1 : decide (t335 = t325) = true := by simpa using c41))
  (try (have c41b2 : (t335 == t325) = true := by simpa using c41))
  clear c41
  by_cases c42 : (t340 != t325) = true
  · exact laws_FnDigitsSummed.j0_dead ((if_pos c42).symm.trans H) hr_
  rw [if_neg c42] at H
  have c42b0 : (t340 != t325) = false := by simpa using c42
  (try (have c42b1 : decide (t340 = t325) = true := by simpa using c42))
  (try (have c42b2 : (t340 == t325) = true := by simpa using c42))
  clear c42
  by_cases c43 : t321 = true
  · subst c43
    rw [if_pos rfl] at H
    as_aux_lemma =>
     have H' := Aside0.mk H
     clear H
     go_wp2
     try any_goals (exfalso; exact undef_bool_ (by with_reducible assumption))
     go_meet
     case rel => exact ⟨_, (!t325), z9_2_, H', ⟨by first | omega | exact Nat.le_refl _⟩, ⟨by repeat (first | (with_reducible first | exact HB.out | apply below_alloc | apply pw_below_drewN | apply below_drew1) | exact HB.out)⟩⟩
  replace c43 := Bool.eq_false_iff.mpr c43
  subst c43
  rw [if_neg (show ¬ (false = true) by decide)] at H
  as_aux_lemma =>
   have H' := Aside0.mk H
   clear H
   go_wp2
   try any_goals (exfalso; exact undef_bool_ (by with_reducible assumption))
   go_meet
   case rel => exact ⟨_, (false), z9_2_, H', ⟨by first | omega | exact Nat.le_refl _⟩, ⟨by repeat (first | (with_reducible first | exact HB.out | apply below_alloc | apply pw_below_drewN | apply below_drew1) | exact HB.out)⟩⟩
 case rest =>
  as_aux_lemma =>
  clear HC16
  (try clear c1);(try clear c2);(try clear p2);(try clear c3);(try clear c4);(try clear c5);(try clear c6);(try clear c7);(try clear c8);(try clear c9);(try clear c10);(try clear c11);(try clear c12);(try clear c13);(try clear c14);(try clear c15);(try clear c28);(try clear c28b0);(try clear c28b1);(try clear c28b2);(try clear c29);(try clear c29b0);(try clear c29b1);(try clear c30);(try clear c30b0);(try clear c30b1);(try clear c30b2);(try clear c31);(try clear c31b0);(try clear c31b1);(try clear c32);(try clear c32b0);(try clear c32b1);(try clear c32b2);(try clear c33);(try clear c33b0);(try clear c33b1);(try clear c34);(try clear c34b0);(try clear c34b1);(try clear c35);(try clear c35b0);(try clear c35b1);(try clear c35b2);(try clear c36);(try clear c36b0);(try clear c36b1);(try clear c37);(try clear c37b0);(try clear c37b1);(try clear c37b2);(try clear c38);(try clear c38b0);(try clear c38b1);(try clear c39);(try clear c39b0);(try clear c39b1);(try clear c40);(try clear c40b0);(try clear c40b1);(try clear c40b2);(try clear c41);(try clear c41b0);(try clear c41b1);(try clear c41b2);(try clear c42);(try clear c42b0);(try clear c42b1);(try clear c42b2);(try clear c43)
  obtain ⟨kq, x227_15, rfl, HA, HJ15, HB⟩ := hcut
  cases kq with
  | zero => exact absurd HA.out (by simp [laws_FnDigitsSummed.j0])
  | succ kj15 =>
   have H := HA.out
   clear HA
   simp only [laws_FnDigitsSummed.j0] at H
   by_cases c44 : x227_15 = true
   · subst c44
     rw [if_pos rfl] at H
     as_aux_lemma =>
      exact dead2_ H hr_
   replace c44 := Bool.eq_false_iff.mpr c44
   subst c44
   rw [if_neg (show ¬ (false = true) by decide)] at H
   have HC45 := Aside0.mk H
   clear H
   go_upto_if 228 with (fail)
   go_cut [] from 228 to 339 (fun wc => ∃ (kq : Nat), Aside0 (laws_FnDigitsSummed.j4 kq l1 t319 t320 t321 t324 = some r) ∧ Aside0 (kq ≤ kj15) ∧ Aside0 (Below w.heap.size w wc))
   case first =>
    as_aux_lemma =>
    have H := HC45.out
    clear HC45
    by_cases c46 : t325 = true
    · subst c46
      rw [if_pos rfl] at H
      by_cases c47 : (Int.tmod t324 9) = (Int.tmod t319 9)
      rotate_left
      · exact dead_ (if_neg c47) H hr_
      rw [if_pos c47] at H
      have c47b0 : ((Int.tmod t324 9) == (Int.tmod t319 9)) = true := beq_iff_eq.mpr c47
      have c47b1 : ((Int.tmod t324 9) != (Int.tmod t319 9)) = false := bne_eq_false_iff_eq.mpr c47
      clear c47
      (first | rw [c47b0] | (simp only [i64_w, i32_w]; rw [c47b0]) | skip)
      by_cases c48 : (Int.tmod t328 9) = (Int.tmod t319 9)
      rotate_left
      · exact dead_ (if_neg c48) H hr_
      rw [if_pos c48] at H
      have c48b0 : ((Int.tmod t328 9) == (Int.tmod t319 9)) = true := beq_iff_eq.mpr c48
      have c48b1 : ((Int.tmod t328 9) != (Int.tmod t319 9)) = false := bne_eq_false_iff_eq.mpr c48
      clear c48
      by_cases c49 : t328 < 0
      · exact dead_ (if_pos c49) H hr_
      rw [if_neg c49] at H
      have c49b0 : decide (t328 < 0) = false := decide_eq_false c49
      clear c49
      by_cases c50 : t328 > 9
      · exact dead_ (if_pos c50) H hr_
      rw [if_neg c50] at H
      have c50b0 : decide (9 < t328) = false := decide_eq_false c50
      clear c50
      as_aux_lemma =>
      by_cases c51 : ((t328 == 0) != (t319 == 0)) = true
      · exact dead_ (if_pos c51) H hr_
      rw [if_neg c51] at H
      have c51b0 : ((t328 == 0) != (t319 == 0)) = false := by simpa using c51
      (try (have c51b1 : decide ((t328 == 0) = (t319 == 0)) = true := by simpa using c51))
      (try (have c51b2 : ((t328 == 0) == (t319 == 0)) = true := by simpa using c51))
      clear c51
      by_cases c52 : ((t329 == 0) != (decide (t319 < 10))) = true
      · exact dead_ (if_pos c52) H hr_
      rw [if_neg c52] at H
      have c52b0 : ((t329 == 0) != (decide (t319 < 10))) = false := by simpa using c52
      (try (have c52b1 : decide ((t329 == 0) = (decide (t319 < 10))) = true := by simpa using c52))
      (try (have c52b2 : ((t329 == 0) == (decide (t319 < 10))) = true := by simpa using c52))
      clear c52
      by_cases c53 : t338 < 0
      · exact dead_ (if_pos c53) H hr_
      rw [if_neg c53] at H
      have c53b0 : decide (t338 < 0) = false := decide_eq_false c53
      clear c53
      by_cases c54 : t338 > 9
      · exact dead_ (if_pos c54) H hr_
      rw [if_neg c54] at H
      have c54b0 : decide (9 < t338) = false := decide_eq_false c54
      clear c54
      by_cases c55 : ((t339 == 0) != (decide (t319 < 10))) = true
      · exact dead_ (if_pos c55) H hr_
      rw [if_neg c55] at H
      have c55b0 : ((t339 == 0) != (decide (t319 < 10))) = false := by simpa using c55
      (try (have c55b1 : decide ((t339 == 0) = (decide (t319 < 10))) = true := by simpa using c55))
      (try (have c55b2 : ((t339 == 0) == (decide (t319 < 10))) = true := by simpa using c55))
      clear c55
      have HC56 := Aside0.mk H
      clear H
      go_upto_if 279 with (fail)
      go_cut [] from 228 to 319 (fun wc => ∃ (kq : Nat), Aside0 (laws_FnDigitsSummed.j1 kq l1 t319 t320 t321 t324 t334 = some r) ∧ Aside0 (kq ≤ kj15) ∧ Aside0 (Below w.heap.size w wc))
      case first =>
       as_aux_lemma =>
       have H := HC56.out
       clear HC56
       by_cases c57 : t319 > 9
       · rw [if_pos c57] at H
         have c57b0 : decide (9 < t319) = true := decide_eq_true c57
         clear c57
         (first | rw [c57b0] | (simp only [i64_w, i32_w]; rw [c57b0]) | skip)
         replace H := Option.bind_eq_some_iff.mp H
         obtain ⟨⟨t344, t345, t346⟩, A580, H⟩ := H
         dsimp only at H
         have A58 := Aside0.mk A580
         clear A580
         replace H := Option.bind_eq_some_iff.mp H
         obtain ⟨⟨t347, t348, t349⟩, A590, H⟩ := H
         dsimp only at H
         have A59 := Aside0.mk A590
         clear A590
         by_cases c60 : t346 = true
         · subst c60
           rw [if_pos rfl] at H
           by_cases c61 : t344 = t328
           rotate_left
           · exact dead_ (if_neg c61) H hr_
           rw [if_pos c61] at H
           have c61b0 : (t344 == t328) = true := beq_iff_eq.mpr c61
           have c61b1 : (t344 != t328) = false := bne_eq_false_iff_eq.mpr c61
           clear c61
           by_cases c62 : t345 = (wrap64 (t329 - 1))
           rotate_left
           · exact dead_ (if_neg c62) H hr_
           rw [if_pos c62] at H
           have c62b0 : (t345 == (wrap64 (t329 - 1))) = true := beq_iff_eq.mpr c62
           have c62b1 : (t345 != (wrap64 (t329 - 1))) = false := bne_eq_false_iff_eq.mpr c62
           clear c62
           by_cases c63 : t349 = true
           · subst c63
             rw [if_pos rfl] at H
             by_cases c64 : t347 = t338
             rotate_left
             · exact dead_ (if_neg c64) H hr_
             rw [if_pos c64] at H
             have c64b0 : (t347 == t338) = true := beq_iff_eq.mpr c64
             have c64b1 : (t347 != t338) = false := bne_eq_false_iff_eq.mpr c64
             clear c64
             by_cases c65 : t348 = (wrap64 (t339 - 1))
             rotate_left
             · exact dead_ (if_neg c65) H hr_
             rw [if_pos c65] at H
             have c65b0 : (t348 == (wrap64 (t339 - 1))) = true := beq_iff_eq.mpr c65
             have c65b1 : (t348 != (wrap64 (t339 - 1))) = false := bne_eq_false_iff_eq.mpr c65
             clear c65
             as_aux_lemma =>
              have H' := Aside0.mk H
              clear H
              go_wp2_with (first | ((with_reducible refine gate_callee (f := 10) rfl ?_); refine goesL_ (some 282) rfl rfl Tryz.func10 (by kernel_rfl) rfl #[.int .i64 t324] rfl z9_1_ ?_; (with_reducible refine (impl_DigitRoot.calls kj15 t324 t344 t345 true _ ?side1 A58.out).mono ?_); (case side1 => exact Shelf.TabOk.below HT.out z9_0_); rintro e w66 ⟨rfl, hb⟩; refine ⟨_, rfl, ?_⟩; have n0_ := Aside0.mk (below_step z9_0_ hb); clear HB; have HB := n0_; clear n0_; (try clear hb); (try clear hb2); (try clear hk); (try clear hi)) | ((with_reducible refine gate_callee (f := 14) rfl ?_); refine goesL_ (some 288) rfl rfl Tryz.func14 (by kernel_rfl) rfl #[.int .i64 t334] rfl z9_1_ ?_; (with_reducible refine (impl_ProductEnd.calls kj15 t334 t347 t348 true _ ?side1 A59.out).mono ?_); (case side1 => exact Shelf.TabOk.below HT.out z9_0_); rintro e w67 ⟨rfl, hb⟩; refine ⟨_, rfl, ?_⟩; have n0_ := Aside0.mk (below_step z9_0_ hb); clear HB; have HB := n0_; clear n0_; (try clear hb); (try clear hb2); (try clear hk); (try clear hi)))
              try any_goals (exfalso; exact undef_bool_ (by with_reducible assumption))
              go_meet
              case rel => exact ⟨_, H', ⟨by have := HJ15.out; first | omega | exact Nat.le_refl _⟩, ⟨by repeat (first | (with_reducible first | exact HB.out | apply below_alloc | apply pw_below_drewN | apply below_drew1) | exact HB.out)⟩⟩
           replace c63 := Bool.eq_false_iff.mpr c63
           subst c63
           rw [if_neg (show ¬ (false = true) by decide)] at H
           as_aux_lemma =>
            exact dead2_ H hr_
         replace c60 := Bool.eq_false_iff.mpr c60
         subst c60
         rw [if_neg (show ¬ (false = true) by decide)] at H
         as_aux_lemma =>
          exact dead2_ H hr_
       rw [if_neg c57] at H
       have c57b0 : decide (9 < t319) = false := decide_eq_false c57
       clear c57
       (first | rw [c57b0] | (simp only [i64_w, i32_w]; rw [c57b0]) | skip)
       as_aux_lemma =>
        have H' := Aside0.mk H
        clear H
        go_wp2
        try any_goals (exfalso; exact undef_bool_ (by with_reducible assumption))
        go_meet
        case rel => exact ⟨_, H', ⟨by have := HJ15.out; first | omega | exact Nat.le_refl _⟩, ⟨by repeat (first | (with_reducible first | exact HB.out | apply below_alloc | apply pw_below_drewN | apply below_drew1) | exact HB.out)⟩⟩
      case rest =>
       as_aux_lemma =>
       clear HC56
       (try clear c1);(try clear c2);(try clear p2);(try clear c3);(try clear c4);(try clear c5);(try clear c6);(try clear p6);(try clear c7);(try clear c8);(try clear c9);(try clear c10);(try clear c11);(try clear c12);(try clear c13);(try clear c14);(try clear c15);(try clear c28);(try clear c28b0);(try clear c28b1);(try clear c28b2);(try clear c29);(try clear c29b0);(try clear c29b1);(try clear c30);(try clear c30b0);(try clear c30b1);(try clear c30b2);(try clear c31);(try clear c31b0);(try clear c31b1);(try clear c32);(try clear c32b0);(try clear c32b1);(try clear c32b2);(try clear c33);(try clear c33b0);(try clear c33b1);(try clear c34);(try clear c34b0);(try clear c34b1);(try clear c35);(try clear c35b0);(try clear c35b1);(try clear c35b2);(try clear c36);(try clear c36b0);(try clear c36b1);(try clear c37);(try clear c37b0);(try clear c37b1);(try clear c37b2);(try clear c38);(try clear c38b0);(try clear c38b1);(try clear c39);(try clear c39b0);(try clear c39b1);(try clear c40);(try clear c40b0);(try clear c40b1);(try clear c40b2);(try clear c41);(try clear c41b0);(try clear c41b1);(try clear c41b2);(try clear c42);(try clear c42b0);(try clear c42b1);(try clear c42b2);(try clear c43);(try clear c44);(try clear c46);(try clear c47);(try clear c47b0);(try clear c47b1);(try clear c48);(try clear c48b0);(try clear c48b1);(try clear c49);(try clear c49b0);(try clear c50);(try clear c50b0);(try clear c51);(try clear c51b0);(try clear c51b1);(try clear c51b2);(try clear c52);(try clear c52b0);(try clear c52b1);(try clear c52b2);(try clear c53);(try clear c53b0);(try clear c54);(try clear c54b0);(try clear c55);(try clear c55b0);(try clear c55b1);(try clear c55b2);(try clear c57);(try clear c57b0);(try clear c60);(try clear c61);(try clear c61b0);(try clear c61b1);(try clear c62);(try clear c62b0);(try clear c62b1);(try clear c63);(try clear c64);(try clear c64b0);(try clear c64b1);(try clear p64);(try clear c65);(try clear c65b0);(try clear c65b1);(try clear p2)
       obtain ⟨kq, HA, HJ55, HB⟩ := hcut
       cases kq with
       | zero => exact absurd HA.out (by simp [laws_FnDigitsSummed.j1])
       | succ kj55 =>
        have H := HA.out
        clear HA
        simp only [laws_FnDigitsSummed.j1] at H
        have H' := Aside0.mk H
        clear H
        go_wp2
        go_loopg [36, 37] kj55 (fun kq v36 v37 w' => ∃ (x36_3 : Int) (x37_3 : Int), v36 = .int .i64 x36_3 ∧ v37 = .int .i64 x37_3 ∧ Aside0 (laws_FnDigitsSummed.l0 kq l1 t319 t320 t321 t324 t334 x36_3 x37_3 = some r) ∧ Aside0 (kq ≤ kj55) ∧ Aside0 (Below w.heap.size w w'))
        case atStart => exact ⟨(1), (t319), z9_2_, z9_2_, H', ⟨Nat.le_refl _⟩, ⟨by repeat (first | (with_reducible first | exact HB.out | apply below_alloc | apply pw_below_drewN | apply below_drew1) | exact HB.out)⟩⟩
        case round =>
         clear H'
         (try clear c1);(try clear c2);(try clear p2);(try clear c3);(try clear c4);(try clear c5);(try clear c6);(try clear p6);(try clear c7);(try clear c8);(try clear c9);(try clear c10);(try clear c11);(try clear c12);(try clear c13);(try clear c14);(try clear c15);(try clear c28);(try clear c28b0);(try clear c28b1);(try clear c28b2);(try clear c29);(try clear c29b0);(try clear c29b1);(try clear c30);(try clear c30b0);(try clear c30b1);(try clear c30b2);(try clear c31);(try clear c31b0);(try clear c31b1);(try clear c32);(try clear c32b0);(try clear c32b1);(try clear c32b2);(try clear c33);(try clear c33b0);(try clear c33b1);(try clear c34);(try clear c34b0);(try clear c34b1);(try clear c35);(try clear c35b0);(try clear c35b1);(try clear c35b2);(try clear c36);(try clear c36b0);(try clear c36b1);(try clear c37);(try clear c37b0);(try clear c37b1);(try clear c37b2);(try clear c38);(try clear c38b0);(try clear c38b1);(try clear c39);(try clear c39b0);(try clear c39b1);(try clear c40);(try clear c40b0);(try clear c40b1);(try clear c40b2);(try clear c41);(try clear c41b0);(try clear c41b1);(try clear c41b2);(try clear c42);(try clear c42b0);(try clear c42b1);(try clear c42b2);(try clear c43);(try clear c44);(try clear c46);(try clear c47);(try clear c47b0);(try clear c47b1);(try clear c48);(try clear c48b0);(try clear c48b1);(try clear c49);(try clear c49b0);(try clear c50);(try clear c50b0);(try clear c51);(try clear c51b0);(try clear c51b1);(try clear c51b2);(try clear c52);(try clear c52b0);(try clear c52b1);(try clear c52b2);(try clear c53);(try clear c53b0);(try clear c54);(try clear c54b0);(try clear c55);(try clear c55b0);(try clear c55b1);(try clear c55b2);(try clear c57);(try clear c57b0);(try clear c60);(try clear c61);(try clear c61b0);(try clear c61b1);(try clear c62);(try clear c62b0);(try clear c62b1);(try clear c63);(try clear c64);(try clear c64b0);(try clear c64b1);(try clear p64);(try clear c65);(try clear c65b0);(try clear c65b1);(try clear p2);(try clear p6);(try clear p64)
         obtain ⟨x36_3, x37_3, rfl, rfl, HA, HK3, HB⟩ := hrel
         cases gk with
         | zero => exact absurd HA.out (by simp [laws_FnDigitsSummed.l0])
         | succ k3 =>
          have H := HA.out
          clear HA
          simp only [laws_FnDigitsSummed.l0] at H
          by_cases c68 : x37_3 > 9
          · rw [if_pos c68] at H
            have c68b0 : decide (9 < x37_3) = true := decide_eq_true c68
            clear c68
            as_aux_lemma =>
             have H' := Aside0.mk H
             clear H
             go_wp2
             go_roundg k3
             case measure => have := HJ15.out; have := HJ55.out; have := HK3.out; omega
             case rel => exact ⟨(wrap64 (x36_3 * (Int.tmod x37_3 10))), (wrap64 (Int.tdiv x37_3 10)), z9_2_, z9_2_, H', ⟨by have := HJ15.out; have := HJ55.out; have := HK3.out; omega⟩, ⟨by repeat (first | (with_reducible first | exact HB.out | apply below_alloc | apply pw_below_drewN | apply below_drew1) | exact HB.out)⟩⟩
          rw [if_neg c68] at H
          have c68b0 : decide (9 < x37_3) = false := decide_eq_false c68
          clear c68
          have H' := Aside0.mk H
          clear H
          go_wp2
          go_loopg [36, 38] k3 (fun kq v36 v38 w' => ∃ (x36_4 : Int) (x38_4 : Int), v36 = .int .i64 x36_4 ∧ v38 = .int .i64 x38_4 ∧ Aside0 (laws_FnDigitsSummed.l1 kq l1 t319 t320 t321 t324 t334 x36_4 x38_4 = some r) ∧ Aside0 (kq ≤ k3) ∧ Aside0 (Below w.heap.size w w'))
          case atStart => exact ⟨(x36_3), (t319), z9_2_, z9_2_, H', ⟨Nat.le_refl _⟩, ⟨by repeat (first | (with_reducible first | exact HB.out | apply below_alloc | apply pw_below_drewN | apply below_drew1) | exact HB.out)⟩⟩
          case round =>
           clear H'
           (try clear c1);(try clear c2);(try clear p2);(try clear c3);(try clear c4);(try clear c5);(try clear c6);(try clear p6);(try clear c7);(try clear c8);(try clear c9);(try clear c10);(try clear c11);(try clear c12);(try clear c13);(try clear c14);(try clear c15);(try clear c28);(try clear c28b0);(try clear c28b1);(try clear c28b2);(try clear c29);(try clear c29b0);(try clear c29b1);(try clear c30);(try clear c30b0);(try clear c30b1);(try clear c30b2);(try clear c31);(try clear c31b0);(try clear c31b1);(try clear c32);(try clear c32b0);(try clear c32b1);(try clear c32b2);(try clear c33);(try clear c33b0);(try clear c33b1);(try clear c34);(try clear c34b0);(try clear c34b1);(try clear c35);(try clear c35b0);(try clear c35b1);(try clear c35b2);(try clear c36);(try clear c36b0);(try clear c36b1);(try clear c37);(try clear c37b0);(try clear c37b1);(try clear c37b2);(try clear c38);(try clear c38b0);(try clear c38b1);(try clear c39);(try clear c39b0);(try clear c39b1);(try clear c40);(try clear c40b0);(try clear c40b1);(try clear c40b2);(try clear c41);(try clear c41b0);(try clear c41b1);(try clear c41b2);(try clear c42);(try clear c42b0);(try clear c42b1);(try clear c42b2);(try clear c43);(try clear c44);(try clear c46);(try clear c47);(try clear c47b0);(try clear c47b1);(try clear c48);(try clear c48b0);(try clear c48b1);(try clear c49);(try clear c49b0);(try clear c50);(try clear c50b0);(try clear c51);(try clear c51b0);(try clear c51b1);(try clear c51b2);(try clear c52);(try clear c52b0);(try clear c52b1);(try clear c52b2);(try clear c53);(try clear c53b0);(try clear c54);(try clear c54b0);(try clear c55);(try clear c55b0);(try clear c55b1);(try clear c55b2);(try clear c57);(try clear c57b0);(try clear c60);(try clear c61);(try clear c61b0);(try clear c61b1);(try clear c62);(try clear c62b0);(try clear c62b1);(try clear c63);(try clear c64);(try clear c64b0);(try clear c64b1);(try clear p64);(try clear c65);(try clear c65b0);(try clear c65b1);(try clear c68);(try clear c68b0);(try clear p2);(try clear p6);(try clear p64)
           obtain ⟨x36_4, x38_4, rfl, rfl, HA, HK4, HB⟩ := hrel
           cases gk with
           | zero => exact absurd HA.out (by simp [laws_FnDigitsSummed.l1])
           | succ k4 =>
            have H := HA.out
            clear HA
            simp only [laws_FnDigitsSummed.l1] at H
            by_cases c69 : x38_4 < 10
            · rw [if_pos c69] at H
              have c69b0 : decide (x38_4 < 10) = true := decide_eq_true c69
              clear c69
              by_cases c70 : (wrap64 (x36_4 * x38_4)) = t334
              rotate_left
              · exact dead_ (if_neg c70) H hr_
              rw [if_pos c70] at H
              have c70b0 : ((wrap64 (x36_4 * x38_4)) == t334) = true := beq_iff_eq.mpr c70
              have c70b1 : ((wrap64 (x36_4 * x38_4)) != t334) = false := bne_eq_false_iff_eq.mpr c70
              clear c70
              as_aux_lemma =>
               have H' := Aside0.mk H
               clear H
               go_wp2
               try any_goals (exfalso; exact undef_bool_ (by with_reducible assumption))
               go_meet
               case rel => exact ⟨_, H', ⟨by have := HJ15.out; have := HJ55.out; have := HK3.out; have := HK4.out; first | omega | exact Nat.le_refl _⟩, ⟨by repeat (first | (with_reducible first | exact HB.out | apply below_alloc | apply pw_below_drewN | apply below_drew1) | exact HB.out)⟩⟩
            rw [if_neg c69] at H
            have c69b0 : decide (x38_4 < 10) = false := decide_eq_false c69
            clear c69
            as_aux_lemma =>
             have H' := Aside0.mk H
             clear H
             go_wp2
             go_roundg k4
             case measure => have := HJ15.out; have := HJ55.out; have := HK3.out; have := HK4.out; omega
             case rel => exact ⟨(x36_4), (wrap64 (Int.tdiv x38_4 10)), z9_2_, z9_2_, H', ⟨by have := HJ15.out; have := HJ55.out; have := HK3.out; have := HK4.out; omega⟩, ⟨by repeat (first | (with_reducible first | exact HB.out | apply below_alloc | apply pw_below_drewN | apply below_drew1) | exact HB.out)⟩⟩
    replace c46 := Bool.eq_false_iff.mpr c46
    subst c46
    rw [if_neg (show ¬ (false = true) by decide)] at H
    as_aux_lemma =>
     have H' := Aside0.mk H
     clear H
     go_wp2
     try any_goals (exfalso; exact undef_bool_ (by with_reducible assumption))
     go_meet
     case rel => exact ⟨_, H', ⟨by have := HJ15.out; first | omega | exact Nat.le_refl _⟩, ⟨by repeat (first | (with_reducible first | exact HB.out | apply below_alloc | apply pw_below_drewN | apply below_drew1) | exact HB.out)⟩⟩
   case rest =>
    as_aux_lemma =>
    clear HC45
    (try clear c1);(try clear c2);(try clear p2);(try clear c3);(try clear c4);(try clear c5);(try clear c6);(try clear p6);(try clear c7);(try clear c8);(try clear c9);(try clear c10);(try clear c11);(try clear c12);(try clear c13);(try clear c14);(try clear c15);(try clear c28);(try clear c28b0);(try clear c28b1);(try clear c28b2);(try clear c29);(try clear c29b0);(try clear c29b1);(try clear c30);(try clear c30b0);(try clear c30b1);(try clear c30b2);(try clear c31);(try clear c31b0);(try clear c31b1);(try clear c32);(try clear c32b0);(try clear c32b1);(try clear c32b2);(try clear c33);(try clear c33b0);(try clear c33b1);(try clear c34);(try clear c34b0);(try clear c34b1);(try clear c35);(try clear c35b0);(try clear c35b1);(try clear c35b2);(try clear c36);(try clear c36b0);(try clear c36b1);(try clear c37);(try clear c37b0);(try clear c37b1);(try clear c37b2);(try clear c38);(try clear c38b0);(try clear c38b1);(try clear c39);(try clear c39b0);(try clear c39b1);(try clear c40);(try clear c40b0);(try clear c40b1);(try clear c40b2);(try clear c41);(try clear c41b0);(try clear c41b1);(try clear c41b2);(try clear c42);(try clear c42b0);(try clear c42b1);(try clear c42b2);(try clear c43);(try clear c44);(try clear c46);(try clear c47);(try clear c47b0);(try clear c47b1);(try clear c48);(try clear c48b0);(try clear c48b1);(try clear c49);(try clear c49b0);(try clear c50);(try clear c50b0);(try clear c51);(try clear c51b0);(try clear c51b1);(try clear c51b2);(try clear c52);(try clear c52b0);(try clear c52b1);(try clear c52b2);(try clear c53);(try clear c53b0);(try clear c54);(try clear c54b0);(try clear c55);(try clear c55b0);(try clear c55b1);(try clear c55b2);(try clear c57);(try clear c57b0);(try clear c60);(try clear c61);(try clear c61b0);(try clear c61b1);(try clear c62);(try clear c62b0);(try clear c62b1);(try clear c63);(try clear c64);(try clear c64b0);(try clear c64b1);(try clear p64);(try clear c65);(try clear c65b0);(try clear c65b1);(try clear c68);(try clear c68b0);(try clear c69);(try clear c69b0);(try clear c70);(try clear c70b0);(try clear c70b1);(try clear p2);(try clear p6);(try clear p64)
    obtain ⟨kq, HA, HJ44, HB⟩ := hcut
    cases kq with
    | zero => exact absurd HA.out (by simp [laws_FnDigitsSummed.j4])
    | succ kj44 =>
     have H := HA.out
     clear HA
     simp only [laws_FnDigitsSummed.j4] at H
     have HC71 := Aside0.mk H
     clear H
     go_upto_if 340 with (fail)
     go_cut [] from 340 to 396 (fun wc => ∃ (kq : Nat), Aside0 (laws_FnDigitsSummed.j5 kq l1 = some r) ∧ Aside0 (kq ≤ kj44) ∧ Aside0 (Below w.heap.size w wc))
     case first =>
      as_aux_lemma =>
      have H := HC71.out
      clear HC71
      by_cases c72 : t321 = true
      · subst c72
        rw [if_pos rfl] at H
        replace H := Option.bind_eq_some_iff.mp H
        obtain ⟨⟨t350, t351⟩, A730, H⟩ := H
        dsimp only at H
        have A73 := Aside0.mk A730
        clear A730
        replace H := Option.bind_eq_some_iff.mp H
        obtain ⟨⟨t352, t353⟩, A740, H⟩ := H
        dsimp only at H
        have A74 := Aside0.mk A740
        clear A740
        replace H := Option.bind_eq_some_iff.mp H
        obtain ⟨⟨t354, t355⟩, A750, H⟩ := H
        dsimp only at H
        have A75 := Aside0.mk A750
        clear A750
        by_cases c76 : t320 ≤ t319
        · exact dead_ (if_pos c76) H hr_
        rw [if_neg c76] at H
        have c76b0 : decide (t320 ≤ t319) = false := decide_eq_false c76
        clear c76
        (first | rw [c76b0] | (simp only [i64_w, i32_w]; rw [c76b0]) | skip)
        by_cases c77 : t351 = true
        · subst c77
          rw [if_pos rfl] at H
          by_cases c78 : t350 = t324
          rotate_left
          · exact dead_ (if_neg c78) H hr_
          rw [if_pos c78] at H
          have c78b0 : (t350 == t324) = true := beq_iff_eq.mpr c78
          have c78b1 : (t350 != t324) = false := bne_eq_false_iff_eq.mpr c78
          clear c78
          by_cases c79 : t353 = true
          · subst c79
            rw [if_pos rfl] at H
            by_cases c80 : t355 = true
            · subst c80
              rw [if_pos rfl] at H
              by_cases c81 : t352 = (wrap64 (t354 + 1))
              rotate_left
              · exact dead_ (if_neg c81) H hr_
              rw [if_pos c81] at H
              have c81b0 : (t352 == (wrap64 (t354 + 1))) = true := beq_iff_eq.mpr c81
              have c81b1 : (t352 != (wrap64 (t354 + 1))) = false := bne_eq_false_iff_eq.mpr c81
              clear c81
              replace H := Option.bind_eq_some_iff.mp H
              obtain ⟨⟨t356, t357⟩, A820, H⟩ := H
              dsimp only at H
              have A82 := Aside0.mk A820
              clear A820
              by_cases c83 : t357 = true
              · subst c83
                rw [if_pos rfl] at H
                by_cases c84 : t356 = t320
                rotate_left
                · exact dead_ (if_neg c84) H hr_
                rw [if_pos c84] at H
                have c84b0 : (t356 == t320) = true := beq_iff_eq.mpr c84
                have c84b1 : (t356 != t320) = false := bne_eq_false_iff_eq.mpr c84
                clear c84
                as_aux_lemma =>
                 have H' := Aside0.mk H
                 clear H
                 go_wp2_with (first | ((with_reducible refine gate_callee (f := 8) rfl ?_); refine goesL_ (some 343) rfl rfl Tryz.func8 (by kernel_rfl) rfl #[.int .i64 t320] rfl z9_1_ ?_; (with_reducible refine (impl_DigitSum.calls kj44 t320 t350 true _ ?side1 A73.out).mono ?_); (case side1 => exact Shelf.TabOk.below HT.out z9_0_); rintro e w85 ⟨rfl, hb⟩; refine ⟨_, rfl, ?_⟩; have n0_ := Aside0.mk (below_step z9_0_ hb); clear HB; have HB := n0_; clear n0_; (try clear hb); (try clear hb2); (try clear hk); (try clear hi)) | ((with_reducible refine gate_callee (f := 16) rfl ?_); refine goesL_ (some 349) rfl rfl Tryz.func16 (by kernel_rfl) rfl #[.int .i64 t320, .int .i64 t324] rfl z9_1_ ?_; (with_reducible refine (impl_CountOfSum.calls kj44 t320 t324 t352 true _ ?side1 A74.out).mono ?_); (case side1 => exact Shelf.TabOk.below HT.out z9_0_); rintro e w86 ⟨rfl, hb⟩; refine ⟨_, rfl, ?_⟩; have n0_ := Aside0.mk (below_step z9_0_ hb); clear HB; have HB := n0_; clear n0_; (try clear hb); (try clear hb2); (try clear hk); (try clear hi)) | ((with_reducible refine gate_callee (f := 16) rfl ?_); refine goesL_ (some 355) rfl rfl Tryz.func16 (by kernel_rfl) rfl #[.int .i64 t319, .int .i64 t324] rfl z9_1_ ?_; (with_reducible refine (impl_CountOfSum.calls kj44 t319 t324 t354 true _ ?side1 A75.out).mono ?_); (case side1 => exact Shelf.TabOk.below HT.out z9_0_); rintro e w87 ⟨rfl, hb⟩; refine ⟨_, rfl, ?_⟩; have n0_ := Aside0.mk (below_step z9_0_ hb); clear HB; have HB := n0_; clear n0_; (try clear hb); (try clear hb2); (try clear hk); (try clear hi)) | ((with_reducible refine gate_callee (f := 17) rfl ?_); refine goesL_ (some 387) rfl rfl Tryz.func17 (by kernel_rfl) rfl #[.int .i64 t324, .int .i64 t354] rfl z9_1_ ?_; (with_reducible refine (impl_NumberOfSum.calls kj44 t324 t354 t356 true _ A82.out).mono ?_); rintro e w88 ⟨rfl, hb⟩; refine ⟨_, rfl, ?_⟩; have n0_ := Aside0.mk (below_step z9_0_ hb); clear HB; have HB := n0_; clear n0_; (try clear hb); (try clear hb2); (try clear hk); (try clear hi)))
                 try any_goals (exfalso; exact undef_bool_ (by with_reducible assumption))
                 go_meet
                 case rel => exact ⟨_, H', ⟨by have := HJ15.out; have := HJ44.out; first | omega | exact Nat.le_refl _⟩, ⟨by repeat (first | (with_reducible first | exact HB.out | apply below_alloc | apply pw_below_drewN | apply below_drew1) | exact HB.out)⟩⟩
              replace c83 := Bool.eq_false_iff.mpr c83
              subst c83
              rw [if_neg (show ¬ (false = true) by decide)] at H
              as_aux_lemma =>
               exact dead2_ H hr_
            replace c80 := Bool.eq_false_iff.mpr c80
            subst c80
            rw [if_neg (show ¬ (false = true) by decide)] at H
            as_aux_lemma =>
             exact dead2_ H hr_
          replace c79 := Bool.eq_false_iff.mpr c79
          subst c79
          rw [if_neg (show ¬ (false = true) by decide)] at H
          as_aux_lemma =>
           exact dead2_ H hr_
        replace c77 := Bool.eq_false_iff.mpr c77
        subst c77
        rw [if_neg (show ¬ (false = true) by decide)] at H
        as_aux_lemma =>
         exact dead2_ H hr_
      replace c72 := Bool.eq_false_iff.mpr c72
      subst c72
      rw [if_neg (show ¬ (false = true) by decide)] at H
      as_aux_lemma =>
       have H' := Aside0.mk H
       clear H
       go_wp2
       try any_goals (exfalso; exact undef_bool_ (by with_reducible assumption))
       go_meet
       case rel => exact ⟨_, H', ⟨by have := HJ15.out; have := HJ44.out; first | omega | exact Nat.le_refl _⟩, ⟨by repeat (first | (with_reducible first | exact HB.out | apply below_alloc | apply pw_below_drewN | apply below_drew1) | exact HB.out)⟩⟩
     case rest =>
      as_aux_lemma =>
      clear HC71
      (try clear c1);(try clear c2);(try clear p2);(try clear c3);(try clear c4);(try clear c5);(try clear c6);(try clear p6);(try clear c7);(try clear c8);(try clear c9);(try clear c10);(try clear c11);(try clear c12);(try clear c13);(try clear c14);(try clear c15);(try clear c16);(try clear c17);(try clear c28);(try clear c28b0);(try clear c28b1);(try clear c28b2);(try clear c29);(try clear c29b0);(try clear c29b1);(try clear c30);(try clear c30b0);(try clear c30b1);(try clear c30b2);(try clear c31);(try clear c31b0);(try clear c31b1);(try clear c32);(try clear c32b0);(try clear c32b1);(try clear c32b2);(try clear c33);(try clear c33b0);(try clear c33b1);(try clear c34);(try clear c34b0);(try clear c34b1);(try clear c35);(try clear c35b0);(try clear c35b1);(try clear c35b2);(try clear c36);(try clear c36b0);(try clear c36b1);(try clear c37);(try clear c37b0);(try clear c37b1);(try clear c37b2);(try clear c38);(try clear c38b0);(try clear c38b1);(try clear c39);(try clear c39b0);(try clear c39b1);(try clear c40);(try clear c40b0);(try clear c40b1);(try clear c40b2);(try clear c41);(try clear c41b0);(try clear c41b1);(try clear c41b2);(try clear c42);(try clear c42b0);(try clear c42b1);(try clear c42b2);(try clear c43);(try clear c44);(try clear c46);(try clear c47);(try clear c47b0);(try clear c47b1);(try clear c48);(try clear c48b0);(try clear c48b1);(try clear c49);(try clear c49b0);(try clear c50);(try clear c50b0);(try clear c51);(try clear c51b0);(try clear c51b1);(try clear c51b2);(try clear c52);(try clear c52b0);(try clear c52b1);(try clear c52b2);(try clear c53);(try clear c53b0);(try clear c54);(try clear c54b0);(try clear c55);(try clear c55b0);(try clear c55b1);(try clear c55b2);(try clear c57);(try clear c57b0);(try clear c60);(try clear c61);(try clear c61b0);(try clear c61b1);(try clear c62);(try clear c62b0);(try clear c62b1);(try clear c63);(try clear c64);(try clear c64b0);(try clear c64b1);(try clear p64);(try clear c65);(try clear c65b0);(try clear c65b1);(try clear c68);(try clear c68b0);(try clear c69);(try clear c69b0);(try clear c70);(try clear c70b0);(try clear c70b1);(try clear c72);(try clear c76);(try clear c76b0);(try clear c77);(try clear c78);(try clear c78b0);(try clear c78b1);(try clear c79);(try clear c80);(try clear c81);(try clear c81b0);(try clear c81b1);(try clear c83);(try clear c84);(try clear c84b0);(try clear c84b1);(try clear p2);(try clear p6);(try clear p64)
      obtain ⟨kq, HA, HJ70, HB⟩ := hcut
      cases kq with
      | zero => exact absurd HA.out (by simp [laws_FnDigitsSummed.j5])
      | succ kj70 =>
       have H := HA.out
       clear HA
       simp only [laws_FnDigitsSummed.j5] at H
       replace H := Option.bind_eq_some_iff.mp H
       obtain ⟨⟨t358, t359⟩, A890, H⟩ := H
       dsimp only at H
       have A89 := Aside0.mk A890
       clear A890
       replace H := Option.bind_eq_some_iff.mp H
       obtain ⟨⟨t360, t361⟩, A900, H⟩ := H
       dsimp only at H
       have A90 := Aside0.mk A900
       clear A900
       replace H := Option.bind_eq_some_iff.mp H
       obtain ⟨⟨t362, t363⟩, A910, H⟩ := H
       dsimp only at H
       have A91 := Aside0.mk A910
       clear A910
       replace H := Option.bind_eq_some_iff.mp H
       obtain ⟨⟨t364, t365⟩, A920, H⟩ := H
       dsimp only at H
       have A92 := Aside0.mk A920
       clear A920
       replace H := Option.bind_eq_some_iff.mp H
       obtain ⟨⟨t366, t367⟩, A930, H⟩ := H
       dsimp only at H
       have A93 := Aside0.mk A930
       clear A930
       as_aux_lemma =>
       replace H := Option.bind_eq_some_iff.mp H
       obtain ⟨⟨t368, t369⟩, A940, H⟩ := H
       dsimp only at H
       have A94 := Aside0.mk A940
       clear A940
       replace H := Option.bind_eq_some_iff.mp H
       obtain ⟨⟨t370, t371⟩, A950, H⟩ := H
       dsimp only at H
       have A95 := Aside0.mk A950
       clear A950
       replace H := Option.bind_eq_some_iff.mp H
       obtain ⟨⟨t372, t373⟩, A960, H⟩ := H
       dsimp only at H
       have A96 := Aside0.mk A960
       clear A960
       replace H := Option.bind_eq_some_iff.mp H
       obtain ⟨⟨t374, t375⟩, A970, H⟩ := H
       dsimp only at H
       have A97 := Aside0.mk A970
       clear A970
       replace H := Option.bind_eq_some_iff.mp H
       obtain ⟨⟨t376, t377⟩, A980, H⟩ := H
       dsimp only at H
       have A98 := Aside0.mk A980
       clear A980
       as_aux_lemma =>
       replace H := Option.bind_eq_some_iff.mp H
       obtain ⟨⟨t378, t379⟩, A990, H⟩ := H
       dsimp only at H
       have A99 := Aside0.mk A990
       clear A990
       replace H := Option.bind_eq_some_iff.mp H
       obtain ⟨⟨t380, t381⟩, A1000, H⟩ := H
       dsimp only at H
       have A100 := Aside0.mk A1000
       clear A1000
       replace H := Option.bind_eq_some_iff.mp H
       obtain ⟨⟨t382, t383⟩, A1010, H⟩ := H
       dsimp only at H
       have A101 := Aside0.mk A1010
       clear A1010
       replace H := Option.bind_eq_some_iff.mp H
       obtain ⟨⟨t384, t385⟩, A1020, H⟩ := H
       dsimp only at H
       have A102 := Aside0.mk A1020
       clear A1020
       have HC103 := Aside0.mk H
       clear H
       go_upto_region 58 with (first | ((with_reducible refine gate_callee (f := 18) rfl ?_); refine goesL_ (some 399) rfl rfl Tryz.func18 (by kernel_rfl) rfl #[.slice A1 l1.length c1] rfl z9_1_ ?_; (with_reducible refine (spec_DrawCountOfSum.calls _ _ l1 t358 t359 _ ?side1 ?side2 A89.out).mono ?_); (case side1 => repeat (first | exact (Kd.C_below HR1.out HB.out) | (with_reducible refine Kd.C_alloc ?_ _) | (with_reducible refine Kd.C_drewN ?_ _) | (with_reducible refine Kd.C_drew ?_))); (case side2 => exact HC1.out); rintro e w104 ⟨rfl, hb⟩; refine ⟨_, rfl, ?_⟩; have n0_ := Aside0.mk (below_step z9_0_ hb); clear HB; have HB := n0_; clear n0_; (try clear hb); (try clear hb2); (try clear hk); (try clear hi)) | ((with_reducible refine gate_callee (f := 16) rfl ?_); refine goesL_ (some 405) rfl rfl Tryz.func16 (by kernel_rfl) rfl #[.int .i64 t358, .int .i64 t359] rfl z9_1_ ?_; (with_reducible refine (impl_CountOfSum.calls kj70 t358 t359 t360 t361 _ ?side1 A90.out).mono ?_); (case side1 => exact Shelf.TabOk.below HT.out z9_0_); rintro e w105 ⟨rfl, hb⟩; refine ⟨_, rfl, ?_⟩; have n0_ := Aside0.mk (below_step z9_0_ hb); clear HB; have HB := n0_; clear n0_; (try clear hb); (try clear hb2); (try clear hk); (try clear hi)) | ((with_reducible refine gate_callee (f := 19) rfl ?_); refine goesL_ (some 411) rfl rfl Tryz.func19 (by kernel_rfl) rfl #[.int .i64 t358, .int .i64 t359] rfl z9_1_ ?_; (with_reducible refine (spec_CountOfSum.calls kj70 t358 t359 t362 t363 _ A91.out).mono ?_); rintro e w106 ⟨rfl, hb⟩; refine ⟨_, rfl, ?_⟩; have n0_ := Aside0.mk (below_step z9_0_ hb); clear HB; have HB := n0_; clear n0_; (try clear hb); (try clear hb2); (try clear hk); (try clear hi)) | ((with_reducible refine gate_callee (f := 20) rfl ?_); refine goesL_ (some 416) rfl rfl Tryz.func20 (by kernel_rfl) rfl #[.slice A1 l1.length c1] rfl z9_1_ ?_; (with_reducible refine (spec_DrawNumberOfSum.calls _ _ l1 t364 t365 _ ?side1 ?side2 A92.out).mono ?_); (case side1 => repeat (first | exact (Kd.C_below HR1.out HB.out) | (with_reducible refine Kd.C_alloc ?_ _) | (with_reducible refine Kd.C_drewN ?_ _) | (with_reducible refine Kd.C_drew ?_))); (case side2 => exact HC1.out); rintro e w107 ⟨rfl, hb⟩; refine ⟨_, rfl, ?_⟩; have n0_ := Aside0.mk (below_step z9_0_ hb); clear HB; have HB := n0_; clear n0_; (try clear hb); (try clear hb2); (try clear hk); (try clear hi)) | ((with_reducible refine gate_callee (f := 17) rfl ?_); refine goesL_ (some 422) rfl rfl Tryz.func17 (by kernel_rfl) rfl #[.int .i64 t364, .int .i64 t365] rfl z9_1_ ?_; (with_reducible refine (impl_NumberOfSum.calls kj70 t364 t365 t366 t367 _ A93.out).mono ?_); rintro e w108 ⟨rfl, hb⟩; refine ⟨_, rfl, ?_⟩; have n0_ := Aside0.mk (below_step z9_0_ hb); clear HB; have HB := n0_; clear n0_; (try clear hb); (try clear hb2); (try clear hk); (try clear hi)) | ((with_reducible refine gate_callee (f := 21) rfl ?_); refine goesL_ (some 428) rfl rfl Tryz.func21 (by kernel_rfl) rfl #[.int .i64 t364, .int .i64 t365] rfl z9_1_ ?_; (with_reducible refine (spec_NumberOfSum.calls kj70 t364 t365 t368 t369 _ A94.out).mono ?_); rintro e w109 ⟨rfl, hb⟩; refine ⟨_, rfl, ?_⟩; have n0_ := Aside0.mk (below_step z9_0_ hb); clear HB; have HB := n0_; clear n0_; (try clear hb); (try clear hb2); (try clear hk); (try clear hi)) | ((with_reducible refine gate_callee (f := 22) rfl ?_); refine goesL_ (some 433) rfl rfl Tryz.func22 (by kernel_rfl) rfl #[.slice A1 l1.length c1] rfl z9_1_ ?_; (with_reducible refine (spec_DrawCountWithout.calls _ _ l1 t370 t371 _ ?side1 ?side2 A95.out).mono ?_); (case side1 => repeat (first | exact (Kd.C_below HR1.out HB.out) | (with_reducible refine Kd.C_alloc ?_ _) | (with_reducible refine Kd.C_drewN ?_ _) | (with_reducible refine Kd.C_drew ?_))); (case side2 => exact HC1.out); rintro e w110 ⟨rfl, hb⟩; refine ⟨_, rfl, ?_⟩; have n0_ := Aside0.mk (below_step z9_0_ hb); clear HB; have HB := n0_; clear n0_; (try clear hb); (try clear hb2); (try clear hk); (try clear hi)) | ((with_reducible refine gate_callee (f := 23) rfl ?_); refine goesL_ (some 439) rfl rfl Tryz.func23 (by kernel_rfl) rfl #[.int .i64 t370, .int .i64 t371] rfl z9_1_ ?_; (with_reducible refine (impl_CountWithout.calls kj70 t370 t371 t372 t373 _ ?side1 A96.out).mono ?_); (case side1 => exact Shelf.TabOk.below HT.out z9_0_); rintro e w111 ⟨rfl, hb⟩; refine ⟨_, rfl, ?_⟩; have n0_ := Aside0.mk (below_step z9_0_ hb); clear HB; have HB := n0_; clear n0_; (try clear hb); (try clear hb2); (try clear hk); (try clear hi)) | ((with_reducible refine gate_callee (f := 24) rfl ?_); refine goesL_ (some 445) rfl rfl Tryz.func24 (by kernel_rfl) rfl #[.int .i64 t370, .int .i64 t371] rfl z9_1_ ?_; (with_reducible refine (spec_CountWithout.calls kj70 t370 t371 t374 t375 _ A97.out).mono ?_); rintro e w112 ⟨rfl, hb⟩; refine ⟨_, rfl, ?_⟩; have n0_ := Aside0.mk (below_step z9_0_ hb); clear HB; have HB := n0_; clear n0_; (try clear hb); (try clear hb2); (try clear hk); (try clear hi)) | ((with_reducible refine gate_callee (f := 25) rfl ?_); refine goesL_ (some 451) rfl rfl Tryz.func25 (by kernel_rfl) rfl #[.int .i64 t370, .int .i64 t371] rfl z9_1_ ?_; (with_reducible refine (impl_CountOfCounter.calls kj70 t370 t371 t376 t377 _ ?side1 A98.out).mono ?_); (case side1 => exact Shelf.TabOk.below HT.out z9_0_); rintro e w113 ⟨rfl, hb⟩; refine ⟨_, rfl, ?_⟩; have n0_ := Aside0.mk (below_step z9_0_ hb); clear HB; have HB := n0_; clear n0_; (try clear hb); (try clear hb2); (try clear hk); (try clear hi)) | ((with_reducible refine gate_callee (f := 26) rfl ?_); refine goesL_ (some 457) rfl rfl Tryz.func26 (by kernel_rfl) rfl #[.int .i64 t370, .int .i64 t371] rfl z9_1_ ?_; (with_reducible refine (spec_CountOfCounter.calls kj70 t370 t371 t378 t379 _ A99.out).mono ?_); rintro e w114 ⟨rfl, hb⟩; refine ⟨_, rfl, ?_⟩; have n0_ := Aside0.mk (below_step z9_0_ hb); clear HB; have HB := n0_; clear n0_; (try clear hb); (try clear hb2); (try clear hk); (try clear hi)) | ((with_reducible refine gate_callee (f := 27) rfl ?_); refine goesL_ (some 462) rfl rfl Tryz.func27 (by kernel_rfl) rfl #[.slice A1 l1.length c1] rfl z9_1_ ?_; (with_reducible refine (spec_DrawCounterShows.calls _ _ l1 t380 t381 _ ?side1 ?side2 A100.out).mono ?_); (case side1 => repeat (first | exact (Kd.C_below HR1.out HB.out) | (with_reducible refine Kd.C_alloc ?_ _) | (with_reducible refine Kd.C_drewN ?_ _) | (with_reducible refine Kd.C_drew ?_))); (case side2 => exact HC1.out); rintro e w115 ⟨rfl, hb⟩; refine ⟨_, rfl, ?_⟩; have n0_ := Aside0.mk (below_step z9_0_ hb); clear HB; have HB := n0_; clear n0_; (try clear hb); (try clear hb2); (try clear hk); (try clear hi)) | ((with_reducible refine gate_callee (f := 28) rfl ?_); refine goesL_ (some 468) rfl rfl Tryz.func28 (by kernel_rfl) rfl #[.int .i64 t380, .int .i64 t381] rfl z9_1_ ?_; (with_reducible refine (impl_CounterShows.calls kj70 t380 t381 t382 t383 _ ?side1 A101.out).mono ?_); (case side1 => exact Shelf.TabOk.below HT.out z9_0_); rintro e w116 ⟨rfl, hb⟩; refine ⟨_, rfl, ?_⟩; have n0_ := Aside0.mk (below_step z9_0_ hb); clear HB; have HB := n0_; clear n0_; (try clear hb); (try clear hb2); (try clear hk); (try clear hi)) | ((with_reducible refine gate_callee (f := 29) rfl ?_); refine goesL_ (some 474) rfl rfl Tryz.func29 (by kernel_rfl) rfl #[.int .i64 t380, .int .i64 t381] rfl z9_1_ ?_; (with_reducible refine (spec_CounterShows.calls kj70 t380 t381 t384 t385 _ A102.out).mono ?_); rintro e w117 ⟨rfl, hb⟩; refine ⟨_, rfl, ?_⟩; have n0_ := Aside0.mk (below_step z9_0_ hb); clear HB; have HB := n0_; clear n0_; (try clear hb); (try clear hb2); (try clear hk); (try clear hi)))
       (try simp only [Act.put, List.setIfInBounds_toArray, List.set_cons_zero, List.set_cons_succ])
       go_cut [531] from 397 to 531 (fun v531 wc => ∃ (kq : Nat) (x531_102 : Bool), v531 = .bool x531_102 ∧ Aside0 (laws_FnDigitsSummed.j6 kq t358 t359 t360 t361 t364 t365 t366 t367 t370 t371 t372 t373 t376 t377 t380 t381 t382 t383 x531_102 = some r) ∧ Aside0 (kq ≤ kj70) ∧ Aside0 (Below w.heap.size w wc))
       case first =>
        as_aux_lemma =>
        have H := HC103.out
        clear HC103
        by_cases c118 : (t361 != t363) = true
        · exact laws_FnDigitsSummed.j6_dead ((if_pos c118).symm.trans H) hr_
        rw [if_neg c118] at H
        have c118b0 : (t361 != t363) = false := by simpa using c118
        (try (have c118b1 : decide (t361 = t363) = true := by simpa using c118))
        (try (have c118b2 : (t361 == t363) = true := by simpa using c118))
        clear c118
        (first | rw [c118b0] | (simp only [i64_w, i32_w]; rw [c118b0]) | skip)
        by_cases c119 : t360 = t362
        rotate_left
        · exact laws_FnDigitsSummed.j6_dead ((if_neg c119).symm.trans H) hr_
        rw [if_pos c119] at H
        have c119b0 : (t360 == t362) = true := beq_iff_eq.mpr c119
        have c119b1 : (t360 != t362) = false := bne_eq_false_iff_eq.mpr c119
        clear c119
        by_cases c120 : (t367 != t369) = true
        · exact laws_FnDigitsSummed.j6_dead ((if_pos c120).symm.trans H) hr_
        rw [if_neg c120] at H
        have c120b0 : (t367 != t369) = false := by simpa using c120
        (try (have c120b1 : decide (t367 = t369) = true := by simpa using c120))
        (try (have c120b2 : (t367 == t369) = true := by simpa using c120))
        clear c120
        by_cases c121 : t366 = t368
        rotate_left
        · exact laws_FnDigitsSummed.j6_dead ((if_neg c121).symm.trans H) hr_
        rw [if_pos c121] at H
        have c121b0 : (t366 == t368) = true := beq_iff_eq.mpr c121
        have c121b1 : (t366 != t368) = false := bne_eq_false_iff_eq.mpr c121
        clear c121
        as_aux_lemma =>
        by_cases c122 : (t373 != t375) = true
        · exact laws_FnDigitsSummed.j6_dead ((if_pos c122).symm.trans H) hr_
        rw [if_neg c122] at H
        have c122b0 : (t373 != t375) = false := by simpa using c122
        (try (have c122b1 : decide (t373 = t375) = true := by simpa using c122))
        (try (have c122b2 : (t373 == t375) = true := by simpa using c122))
        clear c122
        by_cases c123 : t372 = t374
        rotate_left
        · exact laws_FnDigitsSummed.j6_dead ((if_neg c123).symm.trans H) hr_
        rw [if_pos c123] at H
        have c123b0 : (t372 == t374) = true := beq_iff_eq.mpr c123
        have c123b1 : (t372 != t374) = false := bne_eq_false_iff_eq.mpr c123
        clear c123
        by_cases c124 : (t377 != t379) = true
        · exact laws_FnDigitsSummed.j6_dead ((if_pos c124).symm.trans H) hr_
        rw [if_neg c124] at H
        have c124b0 : (t377 != t379) = false := by simpa using c124
        (try (have c124b1 : decide (t377 = t379) = true := by simpa using c124))
        (try (have c124b2 : (t377 == t379) = true := by simpa using c124))
        clear c124
        by_cases c125 : t376 = t378
        rotate_left
        · exact laws_FnDigitsSummed.j6_dead ((if_neg c125).symm.trans H) hr_
        rw [if_pos c125] at H
        have c125b0 : (t376 == t378) = true := beq_iff_eq.mpr c125
        have c125b1 : (t376 != t378) = false := bne_eq_false_iff_eq.mpr c125
        clear c125
        as_aux_lemma =>
        by_cases c126 : (t383 != t385) = true
        · exact laws_FnDigitsSummed.j6_dead ((if_pos c126).symm.trans H) hr_
        rw [if_neg c126] at H
        have c126b0 : (t383 != t385) = false := by simpa using c126
        (try (have c126b1 : decide (t383 = t385) = true := by simpa using c126))
        (try (have c126b2 : (t383 == t385) = true := by simpa using c126))
        clear c126
        by_cases c127 : t382 = t384
        rotate_left
        · exact laws_FnDigitsSummed.j6_dead ((if_neg c127).symm.trans H) hr_
        rw [if_pos c127] at H
        have c127b0 : (t382 == t384) = true := beq_iff_eq.mpr c127
        have c127b1 : (t382 != t384) = false := bne_eq_false_iff_eq.mpr c127
        clear c127
        by_cases c128 : t377 = true
        · subst c128
          rw [if_pos rfl] at H
          as_aux_lemma =>
           have H' := Aside0.mk H
           clear H
           go_wp2
           try any_goals (exfalso; exact undef_bool_ (by with_reducible assumption))
           go_meet
           case rel => exact ⟨_, (!t373), z9_2_, H', ⟨by have := HJ15.out; have := HJ44.out; have := HJ70.out; first | omega | exact Nat.le_refl _⟩, ⟨by repeat (first | (with_reducible first | exact HB.out | apply below_alloc | apply pw_below_drewN | apply below_drew1) | exact HB.out)⟩⟩
        replace c128 := Bool.eq_false_iff.mpr c128
        subst c128
        rw [if_neg (show ¬ (false = true) by decide)] at H
        as_aux_lemma =>
         have H' := Aside0.mk H
         clear H
         go_wp2
         try any_goals (exfalso; exact undef_bool_ (by with_reducible assumption))
         go_meet
         case rel => exact ⟨_, (false), z9_2_, H', ⟨by have := HJ15.out; have := HJ44.out; have := HJ70.out; first | omega | exact Nat.le_refl _⟩, ⟨by repeat (first | (with_reducible first | exact HB.out | apply below_alloc | apply pw_below_drewN | apply below_drew1) | exact HB.out)⟩⟩
       case rest =>
        as_aux_lemma =>
        clear HC103
        (try clear c1);(try clear c2);(try clear p2);(try clear c3);(try clear c4);(try clear c5);(try clear c6);(try clear p6);(try clear c7);(try clear c8);(try clear c9);(try clear c10);(try clear c11);(try clear c12);(try clear c13);(try clear c14);(try clear c15);(try clear c16);(try clear c17);(try clear c18);(try clear c19);(try clear c20);(try clear c21);(try clear c22);(try clear c23);(try clear c24);(try clear c25);(try clear c26);(try clear c27);(try clear c28);(try clear c28b0);(try clear c28b1);(try clear c28b2);(try clear c29);(try clear c29b0);(try clear c29b1);(try clear c30);(try clear c30b0);(try clear c30b1);(try clear c30b2);(try clear c31);(try clear c31b0);(try clear c31b1);(try clear c32);(try clear c32b0);(try clear c32b1);(try clear c32b2);(try clear c33);(try clear c33b0);(try clear c33b1);(try clear c34);(try clear c34b0);(try clear c34b1);(try clear c35);(try clear c35b0);(try clear c35b1);(try clear c35b2);(try clear c36);(try clear c36b0);(try clear c36b1);(try clear c37);(try clear c37b0);(try clear c37b1);(try clear c37b2);(try clear c38);(try clear c38b0);(try clear c38b1);(try clear c39);(try clear c39b0);(try clear c39b1);(try clear c40);(try clear c40b0);(try clear c40b1);(try clear c40b2);(try clear c41);(try clear c41b0);(try clear c41b1);(try clear c41b2);(try clear c42);(try clear c42b0);(try clear c42b1);(try clear c42b2);(try clear c43);(try clear c44);(try clear c46);(try clear c47);(try clear c47b0);(try clear c47b1);(try clear c48);(try clear c48b0);(try clear c48b1);(try clear c49);(try clear c49b0);(try clear c50);(try clear c50b0);(try clear c51);(try clear c51b0);(try clear c51b1);(try clear c51b2);(try clear c52);(try clear c52b0);(try clear c52b1);(try clear c52b2);(try clear c53);(try clear c53b0);(try clear c54);(try clear c54b0);(try clear c55);(try clear c55b0);(try clear c55b1);(try clear c55b2);(try clear c57);(try clear c57b0);(try clear c60);(try clear c61);(try clear c61b0);(try clear c61b1);(try clear c62);(try clear c62b0);(try clear c62b1);(try clear c63);(try clear c64);(try clear c64b0);(try clear c64b1);(try clear p64);(try clear c65);(try clear c65b0);(try clear c65b1);(try clear c68);(try clear c68b0);(try clear c69);(try clear c69b0);(try clear c70);(try clear c70b0);(try clear c70b1);(try clear c72);(try clear c76);(try clear c76b0);(try clear c77);(try clear c78);(try clear c78b0);(try clear c78b1);(try clear c79);(try clear c80);(try clear c81);(try clear c81b0);(try clear c81b1);(try clear c83);(try clear c84);(try clear c84b0);(try clear c84b1);(try clear c118);(try clear c118b0);(try clear c118b1);(try clear c118b2);(try clear c119);(try clear c119b0);(try clear c119b1);(try clear c120);(try clear c120b0);(try clear c120b1);(try clear c120b2);(try clear c121);(try clear c121b0);(try clear c121b1);(try clear c122);(try clear c122b0);(try clear c122b1);(try clear c122b2);(try clear c123);(try clear c123b0);(try clear c123b1);(try clear c124);(try clear c124b0);(try clear c124b1)
        (try clear c124b2);(try clear c125);(try clear c125b0);(try clear c125b1);(try clear c126);(try clear c126b0);(try clear c126b1);(try clear c126b2);(try clear c127);(try clear c127b0);(try clear c127b1);(try clear c128);(try clear p2);(try clear p6);(try clear p64)
        obtain ⟨kq, x531_102, rfl, HA, HJ102, HB⟩ := hcut
        cases kq with
        | zero => exact absurd HA.out (by simp [laws_FnDigitsSummed.j6])
        | succ kj102 =>
         have H := HA.out
         clear HA
         simp only [laws_FnDigitsSummed.j6] at H
         by_cases c129 : x531_102 = true
         · subst c129
           rw [if_pos rfl] at H
           as_aux_lemma =>
            exact dead2_ H hr_
         replace c129 := Bool.eq_false_iff.mpr c129
         subst c129
         rw [if_neg (show ¬ (false = true) by decide)] at H
         have HC130 := Aside0.mk H
         clear H
         go_upto_region 60 with (fail)
         go_cut [536] from 532 to 536 (fun v536 wc => ∃ (kq : Nat) (x536_129 : Bool), v536 = .bool x536_129 ∧ Aside0 (laws_FnDigitsSummed.j7 kq t358 t359 t360 t364 t365 t366 t367 t370 t371 t372 t373 t376 t377 t380 t381 t382 t383 x536_129 = some r) ∧ Aside0 (kq ≤ kj102) ∧ Aside0 (Below w.heap.size w wc))
         case first =>
          as_aux_lemma =>
          have H := HC130.out
          clear HC130
          by_cases c131 : t361 = true
          · subst c131
            rw [if_pos rfl] at H
            as_aux_lemma =>
             have H' := Aside0.mk H
             clear H
             go_wp2
             try any_goals (exfalso; exact undef_bool_ (by with_reducible assumption))
             go_meet
             case rel => exact ⟨_, (decide (t358 > 0)), z9_2_, H', ⟨by have := HJ15.out; have := HJ44.out; have := HJ70.out; have := HJ102.out; first | omega | exact Nat.le_refl _⟩, ⟨by repeat (first | (with_reducible first | exact HB.out | apply below_alloc | apply pw_below_drewN | apply below_drew1) | exact HB.out)⟩⟩
          replace c131 := Bool.eq_false_iff.mpr c131
          subst c131
          rw [if_neg (show ¬ (false = true) by decide)] at H
          as_aux_lemma =>
           have H' := Aside0.mk H
           clear H
           go_wp2
           try any_goals (exfalso; exact undef_bool_ (by with_reducible assumption))
           go_meet
           case rel => exact ⟨_, (false), z9_2_, H', ⟨by have := HJ15.out; have := HJ44.out; have := HJ70.out; have := HJ102.out; first | omega | exact Nat.le_refl _⟩, ⟨by repeat (first | (with_reducible first | exact HB.out | apply below_alloc | apply pw_below_drewN | apply below_drew1) | exact HB.out)⟩⟩
         case rest =>
          as_aux_lemma =>
          clear HC130
          (try clear c1);(try clear c2);(try clear p2);(try clear c3);(try clear c4);(try clear c5);(try clear c6);(try clear p6);(try clear c7);(try clear c8);(try clear c9);(try clear c10);(try clear c11);(try clear c12);(try clear c13);(try clear c14);(try clear c15);(try clear c16);(try clear c17);(try clear c18);(try clear c19);(try clear c20);(try clear c21);(try clear c22);(try clear c23);(try clear c24);(try clear c25);(try clear c26);(try clear c27);(try clear c28);(try clear c28b0);(try clear c28b1);(try clear c28b2);(try clear c29);(try clear c29b0);(try clear c29b1);(try clear c30);(try clear c30b0);(try clear c30b1);(try clear c30b2);(try clear c31);(try clear c31b0);(try clear c31b1);(try clear c32);(try clear c32b0);(try clear c32b1);(try clear c32b2);(try clear c33);(try clear c33b0);(try clear c33b1);(try clear c34);(try clear c34b0);(try clear c34b1);(try clear c35);(try clear c35b0);(try clear c35b1);(try clear c35b2);(try clear c36);(try clear c36b0);(try clear c36b1);(try clear c37);(try clear c37b0);(try clear c37b1);(try clear c37b2);(try clear c38);(try clear c38b0);(try clear c38b1);(try clear c39);(try clear c39b0);(try clear c39b1);(try clear c40);(try clear c40b0);(try clear c40b1);(try clear c40b2);(try clear c41);(try clear c41b0);(try clear c41b1);(try clear c41b2);(try clear c42);(try clear c42b0);(try clear c42b1);(try clear c42b2);(try clear c43);(try clear c44);(try clear c46);(try clear c47);(try clear c47b0);(try clear c47b1);(try clear c48);(try clear c48b0);(try clear c48b1);(try clear c49);(try clear c49b0);(try clear c50);(try clear c50b0);(try clear c51);(try clear c51b0);(try clear c51b1);(try clear c51b2);(try clear c52);(try clear c52b0);(try clear c52b1);(try clear c52b2);(try clear c53);(try clear c53b0);(try clear c54);(try clear c54b0);(try clear c55);(try clear c55b0);(try clear c55b1);(try clear c55b2);(try clear c57);(try clear c57b0);(try clear c60);(try clear c61);(try clear c61b0);(try clear c61b1);(try clear c62);(try clear c62b0);(try clear c62b1);(try clear c63);(try clear c64);(try clear c64b0);(try clear c64b1);(try clear p64);(try clear c65);(try clear c65b0);(try clear c65b1);(try clear c68);(try clear c68b0);(try clear c69);(try clear c69b0);(try clear c70);(try clear c70b0);(try clear c70b1);(try clear c72);(try clear c76);(try clear c76b0);(try clear c77);(try clear c78);(try clear c78b0);(try clear c78b1);(try clear c79);(try clear c80);(try clear c81);(try clear c81b0);(try clear c81b1);(try clear c83);(try clear c84);(try clear c84b0);(try clear c84b1);(try clear c118);(try clear c118b0);(try clear c118b1);(try clear c118b2);(try clear c119);(try clear c119b0);(try clear c119b1);(try clear c120);(try clear c120b0);(try clear c120b1);(try clear c120b2);(try clear c121);(try clear c121b0);(try clear c121b1);(try clear c122);(try clear c122b0);(try clear c122b1);(try clear c122b2);(try clear c123);(try clear c123b0);(try clear c123b1);(try clear c124);(try clear c124b0);(try clear c124b1)
          (try clear c124b2);(try clear c125);(try clear c125b0);(try clear c125b1);(try clear c126);(try clear c126b0);(try clear c126b1);(try clear c126b2);(try clear c127);(try clear c127b0);(try clear c127b1);(try clear c128);(try clear c129);(try clear c131);(try clear p2);(try clear p6);(try clear p64)
          obtain ⟨kq, x536_129, rfl, HA, HJ129, HB⟩ := hcut
          cases kq with
          | zero => exact absurd HA.out (by simp [laws_FnDigitsSummed.j7])
          | succ kj129 =>
           have H := HA.out
           clear HA
           simp only [laws_FnDigitsSummed.j7] at H
           have HC132 := Aside0.mk H
           clear H
           go_upto_if 536 with (fail)
           go_cut [] from 537 to 582 (fun wc => ∃ (kq : Nat), Aside0 (laws_FnDigitsSummed.j8 kq t364 t365 t366 t367 t370 t371 t372 t373 t376 t377 t380 t381 t382 t383 = some r) ∧ Aside0 (kq ≤ kj129) ∧ Aside0 (Below w.heap.size w wc))
           case first =>
            as_aux_lemma =>
            have H := HC132.out
            clear HC132
            by_cases c133 : x536_129 = true
            · subst c133
              rw [if_pos rfl] at H
              replace H := Option.bind_eq_some_iff.mp H
              obtain ⟨⟨t386, t387⟩, A1340, H⟩ := H
              dsimp only at H
              have A134 := Aside0.mk A1340
              clear A1340
              replace H := Option.bind_eq_some_iff.mp H
              obtain ⟨⟨t388, t389⟩, A1350, H⟩ := H
              dsimp only at H
              have A135 := Aside0.mk A1350
              clear A1350
              by_cases c136 : t387 = true
              · subst c136
                rw [if_pos rfl] at H
                by_cases c137 : t389 = true
                · subst c137
                  rw [if_pos rfl] at H
                  by_cases c138 : ((t388 == t359) != (t360 == (wrap64 (t386 + 1)))) = true
                  · exact dead_ (if_pos c138) H hr_
                  rw [if_neg c138] at H
                  have c138b0 : ((t388 == t359) != (t360 == (wrap64 (t386 + 1)))) = false := by simpa using c138
                  (try (have c138b1 : decide ((t388 == t359) = (t360 == (wrap64 (t386 + 1)))) = true := by simpa using c138))
                  (try (have c138b2 : ((t388 == t359) == (t360 == (wrap64 (t386 + 1)))) = true := by simpa using c138))
                  clear c138
                  (first | rw [c138b0] | (simp only [i64_w, i32_w]; rw [c138b0]) | skip)
                  by_cases c139 : t388 = t359
                  · rw [if_pos c139] at H
                    have c139b0 : (t388 == t359) = true := beq_iff_eq.mpr c139
                    have c138b3 : (t360 == (wrap64 (t386 + 1))) = true := by have h_ := c138b0; rw [c139b0] at h_; simpa using h_
                    have c139b1 : (t388 != t359) = false := bne_eq_false_iff_eq.mpr c139
                    clear c139
                    by_cases c140 : t359 = 0
                    · rw [if_pos c140] at H
                      have c140b0 : (t359 == 0) = true := beq_iff_eq.mpr c140
                      have c140b1 : (t359 != 0) = false := bne_eq_false_iff_eq.mpr c140
                      clear c140
                      by_cases c141 : t360 = 0
                      rotate_left
                      · exact dead_ (if_neg c141) H hr_
                      rw [if_pos c141] at H
                      have c141b0 : (t360 == 0) = true := beq_iff_eq.mpr c141
                      have c141b1 : (t360 != 0) = false := bne_eq_false_iff_eq.mpr c141
                      clear c141
                      as_aux_lemma =>
                       have H' := Aside0.mk H
                       clear H
                       go_wp2_with (first | ((with_reducible refine gate_callee (f := 16) rfl ?_); refine goesL_ (some 541) rfl rfl Tryz.func16 (by kernel_rfl) rfl #[.int .i64 (wrap64 (t358 - 1)), .int .i64 t359] rfl z9_1_ ?_; (with_reducible refine (impl_CountOfSum.calls kj129 (wrap64 (t358 - 1)) t359 t386 true _ ?side1 A134.out).mono ?_); (case side1 => exact Shelf.TabOk.below HT.out z9_0_); rintro e w142 ⟨rfl, hb⟩; refine ⟨_, rfl, ?_⟩; have n0_ := Aside0.mk (below_step z9_0_ hb); clear HB; have HB := n0_; clear n0_; (try clear hb); (try clear hb2); (try clear hk); (try clear hi)) | ((with_reducible refine gate_callee (f := 8) rfl ?_); refine goesL_ (some 546) rfl rfl Tryz.func8 (by kernel_rfl) rfl #[.int .i64 t358] rfl z9_1_ ?_; (with_reducible refine (impl_DigitSum.calls kj129 t358 t388 true _ ?side1 A135.out).mono ?_); (case side1 => exact Shelf.TabOk.below HT.out z9_0_); rintro e w143 ⟨rfl, hb⟩; refine ⟨_, rfl, ?_⟩; have n0_ := Aside0.mk (below_step z9_0_ hb); clear HB; have HB := n0_; clear n0_; (try clear hb); (try clear hb2); (try clear hk); (try clear hi)))
                       try any_goals (exfalso; exact undef_bool_ (by with_reducible assumption))
                       go_meet
                       case rel => exact ⟨_, H', ⟨by have := HJ15.out; have := HJ44.out; have := HJ70.out; have := HJ102.out; have := HJ129.out; first | omega | exact Nat.le_refl _⟩, ⟨by repeat (first | (with_reducible first | exact HB.out | apply below_alloc | apply pw_below_drewN | apply below_drew1) | exact HB.out)⟩⟩
                    rw [if_neg c140] at H
                    have c140b0 : (t359 == 0) = false := beq_eq_false_iff_ne.mpr c140
                    have c140b1 : (t359 != 0) = true := bne_iff_ne.mpr c140
                    as_aux_lemma =>
                     have H' := Aside0.mk H
                     clear H
                     go_wp2_with (first | ((with_reducible refine gate_callee (f := 16) rfl ?_); refine goesL_ (some 541) rfl rfl Tryz.func16 (by kernel_rfl) rfl #[.int .i64 (wrap64 (t358 - 1)), .int .i64 t359] rfl z9_1_ ?_; (with_reducible refine (impl_CountOfSum.calls kj129 (wrap64 (t358 - 1)) t359 t386 true _ ?side1 A134.out).mono ?_); (case side1 => exact Shelf.TabOk.below HT.out z9_0_); rintro e w144 ⟨rfl, hb⟩; refine ⟨_, rfl, ?_⟩; have n0_ := Aside0.mk (below_step z9_0_ hb); clear HB; have HB := n0_; clear n0_; (try clear hb); (try clear hb2); (try clear hk); (try clear hi)) | ((with_reducible refine gate_callee (f := 8) rfl ?_); refine goesL_ (some 546) rfl rfl Tryz.func8 (by kernel_rfl) rfl #[.int .i64 t358] rfl z9_1_ ?_; (with_reducible refine (impl_DigitSum.calls kj129 t358 t388 true _ ?side1 A135.out).mono ?_); (case side1 => exact Shelf.TabOk.below HT.out z9_0_); rintro e w145 ⟨rfl, hb⟩; refine ⟨_, rfl, ?_⟩; have n0_ := Aside0.mk (below_step z9_0_ hb); clear HB; have HB := n0_; clear n0_; (try clear hb); (try clear hb2); (try clear hk); (try clear hi)))
                     try any_goals (exfalso; exact undef_bool_ (by with_reducible assumption))
                     go_meet
                     case rel => exact ⟨_, H', ⟨by have := HJ15.out; have := HJ44.out; have := HJ70.out; have := HJ102.out; have := HJ129.out; first | omega | exact Nat.le_refl _⟩, ⟨by repeat (first | (with_reducible first | exact HB.out | apply below_alloc | apply pw_below_drewN | apply below_drew1) | exact HB.out)⟩⟩
                  rw [if_neg c139] at H
                  have c139b0 : (t388 == t359) = false := beq_eq_false_iff_ne.mpr c139
                  have c138b3 : (t360 == (wrap64 (t386 + 1))) = false := by have h_ := c138b0; rw [c139b0] at h_; simpa using h_
                  have c139b1 : (t388 != t359) = true := bne_iff_ne.mpr c139
                  as_aux_lemma =>
                  by_cases c146 : t360 = t386
                  rotate_left
                  · exact dead_ (if_neg c146) H hr_
                  rw [if_pos c146] at H
                  have c146b0 : (t360 == t386) = true := beq_iff_eq.mpr c146
                  have c146b1 : (t360 != t386) = false := bne_eq_false_iff_eq.mpr c146
                  clear c146
                  by_cases c147 : t359 = 0
                  · rw [if_pos c147] at H
                    have c147b0 : (t359 == 0) = true := beq_iff_eq.mpr c147
                    have c147b1 : (t359 != 0) = false := bne_eq_false_iff_eq.mpr c147
                    clear c147
                    by_cases c148 : t360 = 0
                    rotate_left
                    · exact dead_ (if_neg c148) H hr_
                    rw [if_pos c148] at H
                    have c148b0 : (t360 == 0) = true := beq_iff_eq.mpr c148
                    have c148b1 : (t360 != 0) = false := bne_eq_false_iff_eq.mpr c148
                    clear c148
                    as_aux_lemma =>
                     have H' := Aside0.mk H
                     clear H
                     go_wp2_with (first | ((with_reducible refine gate_callee (f := 16) rfl ?_); refine goesL_ (some 541) rfl rfl Tryz.func16 (by kernel_rfl) rfl #[.int .i64 (wrap64 (t358 - 1)), .int .i64 t359] rfl z9_1_ ?_; (with_reducible refine (impl_CountOfSum.calls kj129 (wrap64 (t358 - 1)) t359 t386 true _ ?side1 A134.out).mono ?_); (case side1 => exact Shelf.TabOk.below HT.out z9_0_); rintro e w149 ⟨rfl, hb⟩; refine ⟨_, rfl, ?_⟩; have n0_ := Aside0.mk (below_step z9_0_ hb); clear HB; have HB := n0_; clear n0_; (try clear hb); (try clear hb2); (try clear hk); (try clear hi)) | ((with_reducible refine gate_callee (f := 8) rfl ?_); refine goesL_ (some 546) rfl rfl Tryz.func8 (by kernel_rfl) rfl #[.int .i64 t358] rfl z9_1_ ?_; (with_reducible refine (impl_DigitSum.calls kj129 t358 t388 true _ ?side1 A135.out).mono ?_); (case side1 => exact Shelf.TabOk.below HT.out z9_0_); rintro e w150 ⟨rfl, hb⟩; refine ⟨_, rfl, ?_⟩; have n0_ := Aside0.mk (below_step z9_0_ hb); clear HB; have HB := n0_; clear n0_; (try clear hb); (try clear hb2); (try clear hk); (try clear hi)))
                     try any_goals (exfalso; exact undef_bool_ (by with_reducible assumption))
                     go_meet
                     case rel => exact ⟨_, H', ⟨by have := HJ15.out; have := HJ44.out; have := HJ70.out; have := HJ102.out; have := HJ129.out; first | omega | exact Nat.le_refl _⟩, ⟨by repeat (first | (with_reducible first | exact HB.out | apply below_alloc | apply pw_below_drewN | apply below_drew1) | exact HB.out)⟩⟩
                  rw [if_neg c147] at H
                  have c147b0 : (t359 == 0) = false := beq_eq_false_iff_ne.mpr c147
                  have c147b1 : (t359 != 0) = true := bne_iff_ne.mpr c147
                  as_aux_lemma =>
                   have H' := Aside0.mk H
                   clear H
                   go_wp2_with (first | ((with_reducible refine gate_callee (f := 16) rfl ?_); refine goesL_ (some 541) rfl rfl Tryz.func16 (by kernel_rfl) rfl #[.int .i64 (wrap64 (t358 - 1)), .int .i64 t359] rfl z9_1_ ?_; (with_reducible refine (impl_CountOfSum.calls kj129 (wrap64 (t358 - 1)) t359 t386 true _ ?side1 A134.out).mono ?_); (case side1 => exact Shelf.TabOk.below HT.out z9_0_); rintro e w151 ⟨rfl, hb⟩; refine ⟨_, rfl, ?_⟩; have n0_ := Aside0.mk (below_step z9_0_ hb); clear HB; have HB := n0_; clear n0_; (try clear hb); (try clear hb2); (try clear hk); (try clear hi)) | ((with_reducible refine gate_callee (f := 8) rfl ?_); refine goesL_ (some 546) rfl rfl Tryz.func8 (by kernel_rfl) rfl #[.int .i64 t358] rfl z9_1_ ?_; (with_reducible refine (impl_DigitSum.calls kj129 t358 t388 true _ ?side1 A135.out).mono ?_); (case side1 => exact Shelf.TabOk.below HT.out z9_0_); rintro e w152 ⟨rfl, hb⟩; refine ⟨_, rfl, ?_⟩; have n0_ := Aside0.mk (below_step z9_0_ hb); clear HB; have HB := n0_; clear n0_; (try clear hb); (try clear hb2); (try clear hk); (try clear hi)))
                   try any_goals (exfalso; exact undef_bool_ (by with_reducible assumption))
                   go_meet
                   case rel => exact ⟨_, H', ⟨by have := HJ15.out; have := HJ44.out; have := HJ70.out; have := HJ102.out; have := HJ129.out; first | omega | exact Nat.le_refl _⟩, ⟨by repeat (first | (with_reducible first | exact HB.out | apply below_alloc | apply pw_below_drewN | apply below_drew1) | exact HB.out)⟩⟩
                replace c137 := Bool.eq_false_iff.mpr c137
                subst c137
                rw [if_neg (show ¬ (false = true) by decide)] at H
                as_aux_lemma =>
                 exact dead2_ H hr_
              replace c136 := Bool.eq_false_iff.mpr c136
              subst c136
              rw [if_neg (show ¬ (false = true) by decide)] at H
              as_aux_lemma =>
               exact dead2_ H hr_
            replace c133 := Bool.eq_false_iff.mpr c133
            subst c133
            rw [if_neg (show ¬ (false = true) by decide)] at H
            as_aux_lemma =>
             have H' := Aside0.mk H
             clear H
             go_wp2
             try any_goals (exfalso; exact undef_bool_ (by with_reducible assumption))
             go_meet
             case rel => exact ⟨_, H', ⟨by have := HJ15.out; have := HJ44.out; have := HJ70.out; have := HJ102.out; have := HJ129.out; first | omega | exact Nat.le_refl _⟩, ⟨by repeat (first | (with_reducible first | exact HB.out | apply below_alloc | apply pw_below_drewN | apply below_drew1) | exact HB.out)⟩⟩
           case rest =>
            as_aux_lemma =>
            clear HC132
            (try clear c1);(try clear c2);(try clear p2);(try clear c3);(try clear c4);(try clear c5);(try clear c6);(try clear p6);(try clear c7);(try clear c8);(try clear c9);(try clear c10);(try clear c11);(try clear c12);(try clear c13);(try clear c14);(try clear c15);(try clear c16);(try clear c17);(try clear c18);(try clear c19);(try clear c20);(try clear c21);(try clear c22);(try clear c23);(try clear c24);(try clear c25);(try clear c26);(try clear c27);(try clear c28);(try clear c28b0);(try clear c28b1);(try clear c28b2);(try clear c29);(try clear c29b0);(try clear c29b1);(try clear c30);(try clear c30b0);(try clear c30b1);(try clear c30b2);(try clear c31);(try clear c31b0);(try clear c31b1);(try clear c32);(try clear c32b0);(try clear c32b1);(try clear c32b2);(try clear c33);(try clear c33b0);(try clear c33b1);(try clear c34);(try clear c34b0);(try clear c34b1);(try clear c35);(try clear c35b0);(try clear c35b1);(try clear c35b2);(try clear c36);(try clear c36b0);(try clear c36b1);(try clear c37);(try clear c37b0);(try clear c37b1);(try clear c37b2);(try clear c38);(try clear c38b0);(try clear c38b1);(try clear c39);(try clear c39b0);(try clear c39b1);(try clear c40);(try clear c40b0);(try clear c40b1);(try clear c40b2);(try clear c41);(try clear c41b0);(try clear c41b1);(try clear c41b2);(try clear c42);(try clear c42b0);(try clear c42b1);(try clear c42b2);(try clear c43);(try clear c44);(try clear c46);(try clear c47);(try clear c47b0);(try clear c47b1);(try clear c48);(try clear c48b0);(try clear c48b1);(try clear c49);(try clear c49b0);(try clear c50);(try clear c50b0);(try clear c51);(try clear c51b0);(try clear c51b1);(try clear c51b2);(try clear c52);(try clear c52b0);(try clear c52b1);(try clear c52b2);(try clear c53);(try clear c53b0);(try clear c54);(try clear c54b0);(try clear c55);(try clear c55b0);(try clear c55b1);(try clear c55b2);(try clear c57);(try clear c57b0);(try clear c60);(try clear c61);(try clear c61b0);(try clear c61b1);(try clear c62);(try clear c62b0);(try clear c62b1);(try clear c63);(try clear c64);(try clear c64b0);(try clear c64b1);(try clear p64);(try clear c65);(try clear c65b0);(try clear c65b1);(try clear c68);(try clear c68b0);(try clear c69);(try clear c69b0);(try clear c70);(try clear c70b0);(try clear c70b1);(try clear c72);(try clear c76);(try clear c76b0);(try clear c77);(try clear c78);(try clear c78b0);(try clear c78b1);(try clear c79);(try clear c80);(try clear c81);(try clear c81b0);(try clear c81b1);(try clear c83);(try clear c84);(try clear c84b0);(try clear c84b1);(try clear c118);(try clear c118b0);(try clear c118b1);(try clear c118b2);(try clear c119);(try clear c119b0);(try clear c119b1);(try clear c120);(try clear c120b0);(try clear c120b1);(try clear c120b2);(try clear c121);(try clear c121b0);(try clear c121b1);(try clear c122);(try clear c122b0);(try clear c122b1);(try clear c122b2);(try clear c123);(try clear c123b0);(try clear c123b1);(try clear c124);(try clear c124b0);(try clear c124b1)
            (try clear c124b2);(try clear c125);(try clear c125b0);(try clear c125b1);(try clear c126);(try clear c126b0);(try clear c126b1);(try clear c126b2);(try clear c127);(try clear c127b0);(try clear c127b1);(try clear c128);(try clear c129);(try clear c131);(try clear c133);(try clear c136);(try clear c137);(try clear c138);(try clear c138b0);(try clear c138b1);(try clear c138b2);(try clear c139);(try clear c139b0);(try clear c139b1);(try clear c140);(try clear c140b0);(try clear c140b1);(try clear c141);(try clear c141b0);(try clear c141b1);(try clear c146);(try clear c146b0);(try clear c146b1);(try clear c147);(try clear c147b0);(try clear c147b1);(try clear c148);(try clear c148b0);(try clear c148b1);(try clear p2);(try clear p6);(try clear p64)
            obtain ⟨kq, HA, HJ131, HB⟩ := hcut
            cases kq with
            | zero => exact absurd HA.out (by simp [laws_FnDigitsSummed.j8])
            | succ kj131 =>
             have H := HA.out
             clear HA
             simp only [laws_FnDigitsSummed.j8] at H
             have HC153 := Aside0.mk H
             clear H
             go_upto_if 583 with (fail)
             go_cut [] from 583 to 611 (fun wc => ∃ (kq : Nat), Aside0 (laws_FnDigitsSummed.j9 kq t370 t371 t372 t373 t376 t377 t380 t381 t382 t383 = some r) ∧ Aside0 (kq ≤ kj131) ∧ Aside0 (Below w.heap.size w wc))
             case first =>
              as_aux_lemma =>
              have H := HC153.out
              clear HC153
              by_cases c154 : t367 = true
              · subst c154
                rw [if_pos rfl] at H
                replace H := Option.bind_eq_some_iff.mp H
                obtain ⟨⟨t390, t391⟩, A1550, H⟩ := H
                dsimp only at H
                have A155 := Aside0.mk A1550
                clear A1550
                replace H := Option.bind_eq_some_iff.mp H
                obtain ⟨⟨t392, t393⟩, A1560, H⟩ := H
                dsimp only at H
                have A156 := Aside0.mk A1560
                clear A1560
                by_cases c157 : t391 = true
                · subst c157
                  rw [if_pos rfl] at H
                  by_cases c158 : t390 = t364
                  rotate_left
                  · exact dead_ (if_neg c158) H hr_
                  rw [if_pos c158] at H
                  have c158b0 : (t390 == t364) = true := beq_iff_eq.mpr c158
                  have c158b1 : (t390 != t364) = false := bne_eq_false_iff_eq.mpr c158
                  clear c158
                  (first | rw [c158b0] | (simp only [i64_w, i32_w]; rw [c158b0]) | skip)
                  by_cases c159 : t393 = true
                  · subst c159
                    rw [if_pos rfl] at H
                    by_cases c160 : t392 = (wrap64 (t365 + 1))
                    rotate_left
                    · exact dead_ (if_neg c160) H hr_
                    rw [if_pos c160] at H
                    have c160b0 : (t392 == (wrap64 (t365 + 1))) = true := beq_iff_eq.mpr c160
                    have c160b1 : (t392 != (wrap64 (t365 + 1))) = false := bne_eq_false_iff_eq.mpr c160
                    clear c160
                    as_aux_lemma =>
                     have H' := Aside0.mk H
                     clear H
                     go_wp2_with (first | ((with_reducible refine gate_callee (f := 8) rfl ?_); refine goesL_ (some 586) rfl rfl Tryz.func8 (by kernel_rfl) rfl #[.int .i64 t366] rfl z9_1_ ?_; (with_reducible refine (impl_DigitSum.calls kj131 t366 t390 true _ ?side1 A155.out).mono ?_); (case side1 => exact Shelf.TabOk.below HT.out z9_0_); rintro e w161 ⟨rfl, hb⟩; refine ⟨_, rfl, ?_⟩; have n0_ := Aside0.mk (below_step z9_0_ hb); clear HB; have HB := n0_; clear n0_; (try clear hb); (try clear hb2); (try clear hk); (try clear hi)) | ((with_reducible refine gate_callee (f := 16) rfl ?_); refine goesL_ (some 592) rfl rfl Tryz.func16 (by kernel_rfl) rfl #[.int .i64 t366, .int .i64 t364] rfl z9_1_ ?_; (with_reducible refine (impl_CountOfSum.calls kj131 t366 t364 t392 true _ ?side1 A156.out).mono ?_); (case side1 => exact Shelf.TabOk.below HT.out z9_0_); rintro e w162 ⟨rfl, hb⟩; refine ⟨_, rfl, ?_⟩; have n0_ := Aside0.mk (below_step z9_0_ hb); clear HB; have HB := n0_; clear n0_; (try clear hb); (try clear hb2); (try clear hk); (try clear hi)))
                     try any_goals (exfalso; exact undef_bool_ (by with_reducible assumption))
                     go_meet
                     case rel => exact ⟨_, H', ⟨by have := HJ15.out; have := HJ44.out; have := HJ70.out; have := HJ102.out; have := HJ129.out; have := HJ131.out; first | omega | exact Nat.le_refl _⟩, ⟨by repeat (first | (with_reducible first | exact HB.out | apply below_alloc | apply pw_below_drewN | apply below_drew1) | exact HB.out)⟩⟩
                  replace c159 := Bool.eq_false_iff.mpr c159
                  subst c159
                  rw [if_neg (show ¬ (false = true) by decide)] at H
                  as_aux_lemma =>
                   exact dead2_ H hr_
                replace c157 := Bool.eq_false_iff.mpr c157
                subst c157
                rw [if_neg (show ¬ (false = true) by decide)] at H
                as_aux_lemma =>
                 exact dead2_ H hr_
              replace c154 := Bool.eq_false_iff.mpr c154
              subst c154
              rw [if_neg (show ¬ (false = true) by decide)] at H
              as_aux_lemma =>
               have H' := Aside0.mk H
               clear H
               go_wp2
               try any_goals (exfalso; exact undef_bool_ (by with_reducible assumption))
               go_meet
               case rel => exact ⟨_, H', ⟨by have := HJ15.out; have := HJ44.out; have := HJ70.out; have := HJ102.out; have := HJ129.out; have := HJ131.out; first | omega | exact Nat.le_refl _⟩, ⟨by repeat (first | (with_reducible first | exact HB.out | apply below_alloc | apply pw_below_drewN | apply below_drew1) | exact HB.out)⟩⟩
             case rest =>
              as_aux_lemma =>
              clear HC153
              (try clear c1);(try clear c2);(try clear p2);(try clear c3);(try clear c4);(try clear c5);(try clear c6);(try clear p6);(try clear c7);(try clear c8);(try clear c9);(try clear c10);(try clear c11);(try clear c12);(try clear c13);(try clear c14);(try clear c15);(try clear c16);(try clear c17);(try clear c18);(try clear c19);(try clear c20);(try clear c21);(try clear c22);(try clear c23);(try clear c24);(try clear c25);(try clear c26);(try clear c27);(try clear c28);(try clear c28b0);(try clear c28b1);(try clear c28b2);(try clear c29);(try clear c29b0);(try clear c29b1);(try clear c30);(try clear c30b0);(try clear c30b1);(try clear c30b2);(try clear c31);(try clear c31b0);(try clear c31b1);(try clear c32);(try clear c32b0);(try clear c32b1);(try clear c32b2);(try clear c33);(try clear c33b0);(try clear c33b1);(try clear c34);(try clear c34b0);(try clear c34b1);(try clear c35);(try clear c35b0);(try clear c35b1);(try clear c35b2);(try clear c36);(try clear c36b0);(try clear c36b1);(try clear c37);(try clear c37b0);(try clear c37b1);(try clear c37b2);(try clear c38);(try clear c38b0);(try clear c38b1);(try clear c39);(try clear c39b0);(try clear c39b1);(try clear c40);(try clear c40b0);(try clear c40b1);(try clear c40b2);(try clear c41);(try clear c41b0);(try clear c41b1);(try clear c41b2);(try clear c42);(try clear c42b0);(try clear c42b1);(try clear c42b2);(try clear c43);(try clear c44);(try clear c46);(try clear c47);(try clear c47b0);(try clear c47b1);(try clear c48);(try clear c48b0);(try clear c48b1);(try clear c49);(try clear c49b0);(try clear c50);(try clear c50b0);(try clear c51);(try clear c51b0);(try clear c51b1);(try clear c51b2);(try clear c52);(try clear c52b0);(try clear c52b1);(try clear c52b2);(try clear c53);(try clear c53b0);(try clear c54);(try clear c54b0);(try clear c55);(try clear c55b0);(try clear c55b1);(try clear c55b2);(try clear c57);(try clear c57b0);(try clear c60);(try clear c61);(try clear c61b0);(try clear c61b1);(try clear c62);(try clear c62b0);(try clear c62b1);(try clear c63);(try clear c64);(try clear c64b0);(try clear c64b1);(try clear p64);(try clear c65);(try clear c65b0);(try clear c65b1);(try clear c68);(try clear c68b0);(try clear c69);(try clear c69b0);(try clear c70);(try clear c70b0);(try clear c70b1);(try clear c72);(try clear c76);(try clear c76b0);(try clear c77);(try clear c78);(try clear c78b0);(try clear c78b1);(try clear c79);(try clear c80);(try clear c81);(try clear c81b0);(try clear c81b1);(try clear c83);(try clear c84);(try clear c84b0);(try clear c84b1);(try clear c118);(try clear c118b0);(try clear c118b1);(try clear c118b2);(try clear c119);(try clear c119b0);(try clear c119b1);(try clear c120);(try clear c120b0);(try clear c120b1);(try clear c120b2);(try clear c121);(try clear c121b0);(try clear c121b1);(try clear c122);(try clear c122b0);(try clear c122b1);(try clear c122b2);(try clear c123);(try clear c123b0);(try clear c123b1);(try clear c124);(try clear c124b0);(try clear c124b1)
              (try clear c124b2);(try clear c125);(try clear c125b0);(try clear c125b1);(try clear c126);(try clear c126b0);(try clear c126b1);(try clear c126b2);(try clear c127);(try clear c127b0);(try clear c127b1);(try clear c128);(try clear c129);(try clear c131);(try clear c133);(try clear c136);(try clear c137);(try clear c138);(try clear c138b0);(try clear c138b1);(try clear c138b2);(try clear c139);(try clear c139b0);(try clear c139b1);(try clear c140);(try clear c140b0);(try clear c140b1);(try clear c141);(try clear c141b0);(try clear c141b1);(try clear c146);(try clear c146b0);(try clear c146b1);(try clear c147);(try clear c147b0);(try clear c147b1);(try clear c148);(try clear c148b0);(try clear c148b1);(try clear c154);(try clear c157);(try clear c158);(try clear c158b0);(try clear c158b1);(try clear c159);(try clear c160);(try clear c160b0);(try clear c160b1);(try clear p2);(try clear p6);(try clear p64)
              obtain ⟨kq, HA, HJ152, HB⟩ := hcut
              cases kq with
              | zero => exact absurd HA.out (by simp [laws_FnDigitsSummed.j9])
              | succ kj152 =>
               have H := HA.out
               clear HA
               simp only [laws_FnDigitsSummed.j9] at H
               by_cases c163 : t373 = true
               · subst c163
                 rw [if_pos rfl] at H
                 have H' := Aside0.mk H
                 clear H
                 go_wp2
                 go_loopg [83, 84] kj152 (fun kq v83 v84 w' => ∃ (x83_8 : Bool) (x84_8 : Int), v83 = .bool x83_8 ∧ v84 = .int .i64 x84_8 ∧ Aside0 (laws_FnDigitsSummed.l2 kq t370 t371 t372 t376 t377 t380 t381 t382 t383 x83_8 x84_8 = some r) ∧ Aside0 (kq ≤ kj152) ∧ Aside0 (Below w.heap.size w w'))
                 case atStart => exact ⟨((t370 == 0)), (t370), z9_2_, z9_2_, H', ⟨Nat.le_refl _⟩, ⟨by repeat (first | (with_reducible first | exact HB.out | apply below_alloc | apply pw_below_drewN | apply below_drew1) | exact HB.out)⟩⟩
                 case round =>
                  clear H'
                  (try clear c1);(try clear c2);(try clear p2);(try clear c3);(try clear c4);(try clear c5);(try clear c6);(try clear p6);(try clear c7);(try clear c8);(try clear c9);(try clear c10);(try clear c11);(try clear c12);(try clear c13);(try clear c14);(try clear c15);(try clear c16);(try clear c17);(try clear c18);(try clear c19);(try clear c20);(try clear c21);(try clear c22);(try clear c23);(try clear c24);(try clear c25);(try clear c26);(try clear c27);(try clear c28);(try clear c28b0);(try clear c28b1);(try clear c28b2);(try clear c29);(try clear c29b0);(try clear c29b1);(try clear c30);(try clear c30b0);(try clear c30b1);(try clear c30b2);(try clear c31);(try clear c31b0);(try clear c31b1);(try clear c32);(try clear c32b0);(try clear c32b1);(try clear c32b2);(try clear c33);(try clear c33b0);(try clear c33b1);(try clear c34);(try clear c34b0);(try clear c34b1);(try clear c35);(try clear c35b0);(try clear c35b1);(try clear c35b2);(try clear c36);(try clear c36b0);(try clear c36b1);(try clear c37);(try clear c37b0);(try clear c37b1);(try clear c37b2);(try clear c38);(try clear c38b0);(try clear c38b1);(try clear c39);(try clear c39b0);(try clear c39b1);(try clear c40);(try clear c40b0);(try clear c40b1);(try clear c40b2);(try clear c41);(try clear c41b0);(try clear c41b1);(try clear c41b2);(try clear c42);(try clear c42b0);(try clear c42b1);(try clear c42b2);(try clear c43);(try clear c44);(try clear c46);(try clear c47);(try clear c47b0);(try clear c47b1);(try clear c48);(try clear c48b0);(try clear c48b1);(try clear c49);(try clear c49b0);(try clear c50);(try clear c50b0);(try clear c51);(try clear c51b0);(try clear c51b1);(try clear c51b2);(try clear c52);(try clear c52b0);(try clear c52b1);(try clear c52b2);(try clear c53);(try clear c53b0);(try clear c54);(try clear c54b0);(try clear c55);(try clear c55b0);(try clear c55b1);(try clear c55b2);(try clear c57);(try clear c57b0);(try clear c60);(try clear c61);(try clear c61b0);(try clear c61b1);(try clear c62);(try clear c62b0);(try clear c62b1);(try clear c63);(try clear c64);(try clear c64b0);(try clear c64b1);(try clear p64);(try clear c65);(try clear c65b0);(try clear c65b1);(try clear c68);(try clear c68b0);(try clear c69);(try clear c69b0);(try clear c70);(try clear c70b0);(try clear c70b1);(try clear c72);(try clear c76);(try clear c76b0);(try clear c77);(try clear c78);(try clear c78b0);(try clear c78b1);(try clear c79);(try clear c80);(try clear c81);(try clear c81b0);(try clear c81b1);(try clear c83);(try clear c84);(try clear c84b0);(try clear c84b1);(try clear c118);(try clear c118b0);(try clear c118b1);(try clear c118b2);(try clear c119);(try clear c119b0);(try clear c119b1);(try clear c120);(try clear c120b0);(try clear c120b1);(try clear c120b2);(try clear c121);(try clear c121b0);(try clear c121b1);(try clear c122);(try clear c122b0);(try clear c122b1);(try clear c122b2);(try clear c123);(try clear c123b0);(try clear c123b1);(try clear c124);(try clear c124b0);(try clear c124b1)
                  (try clear c124b2);(try clear c125);(try clear c125b0);(try clear c125b1);(try clear c126);(try clear c126b0);(try clear c126b1);(try clear c126b2);(try clear c127);(try clear c127b0);(try clear c127b1);(try clear c128);(try clear c129);(try clear c131);(try clear c133);(try clear c136);(try clear c137);(try clear c138);(try clear c138b0);(try clear c138b1);(try clear c138b2);(try clear c139);(try clear c139b0);(try clear c139b1);(try clear c140);(try clear c140b0);(try clear c140b1);(try clear c141);(try clear c141b0);(try clear c141b1);(try clear c146);(try clear c146b0);(try clear c146b1);(try clear c147);(try clear c147b0);(try clear c147b1);(try clear c148);(try clear c148b0);(try clear c148b1);(try clear c154);(try clear c157);(try clear c158);(try clear c158b0);(try clear c158b1);(try clear c159);(try clear c160);(try clear c160b0);(try clear c160b1);(try clear c163);(try clear p2);(try clear p6);(try clear p64)
                  obtain ⟨x83_8, x84_8, rfl, rfl, HA, HK8, HB⟩ := hrel
                  cases gk with
                  | zero => exact absurd HA.out (by simp [laws_FnDigitsSummed.l2])
                  | succ k8 =>
                   have H := HA.out
                   clear HA
                   simp only [laws_FnDigitsSummed.l2] at H
                   by_cases c164 : x84_8 > 0
                   · rw [if_pos c164] at H
                     have c164b0 : decide (0 < x84_8) = true := decide_eq_true c164
                     clear c164
                     by_cases c165 : x83_8 = true
                     · subst c165
                       rw [if_pos rfl] at H
                       as_aux_lemma =>
                        have H' := Aside0.mk H
                        clear H
                        go_wp2
                        go_roundg k8
                        case measure => have := HJ15.out; have := HJ44.out; have := HJ70.out; have := HJ102.out; have := HJ129.out; have := HJ131.out; have := HJ152.out; have := HK8.out; omega
                        case rel => exact ⟨(true), (wrap64 (Int.tdiv x84_8 10)), z9_2_, z9_2_, H', ⟨by have := HJ15.out; have := HJ44.out; have := HJ70.out; have := HJ102.out; have := HJ129.out; have := HJ131.out; have := HJ152.out; have := HK8.out; omega⟩, ⟨by repeat (first | (with_reducible first | exact HB.out | apply below_alloc | apply pw_below_drewN | apply below_drew1) | exact HB.out)⟩⟩
                     replace c165 := Bool.eq_false_iff.mpr c165
                     subst c165
                     rw [if_neg (show ¬ (false = true) by decide)] at H
                     as_aux_lemma =>
                      have H' := Aside0.mk H
                      clear H
                      go_wp2
                      go_roundg k8
                      case measure => have := HJ15.out; have := HJ44.out; have := HJ70.out; have := HJ102.out; have := HJ129.out; have := HJ131.out; have := HJ152.out; have := HK8.out; omega
                      case rel => exact ⟨(((Int.tmod x84_8 10) == t371)), (wrap64 (Int.tdiv x84_8 10)), z9_2_, z9_2_, H', ⟨by have := HJ15.out; have := HJ44.out; have := HJ70.out; have := HJ102.out; have := HJ129.out; have := HJ131.out; have := HJ152.out; have := HK8.out; omega⟩, ⟨by repeat (first | (with_reducible first | exact HB.out | apply below_alloc | apply pw_below_drewN | apply below_drew1) | exact HB.out)⟩⟩
                   rw [if_neg c164] at H
                   have c164b0 : decide (0 < x84_8) = false := decide_eq_false c164
                   clear c164
                   as_aux_lemma =>
                   by_cases c166 : (t377 == x83_8) = true
                   · exact dead_ (if_pos c166) H hr_
                   rw [if_neg c166] at H
                   have c166b0 : (t377 == x83_8) = false := by simpa using c166
                   (try (have c166b1 : decide (t377 = x83_8) = false := by simpa using c166))
                   (try (have c166b2 : (t377 == x83_8) = false := by simpa using c166))
                   (try (have c166b3 : ¬ (t377 = x83_8) := by simpa using c166))
                   clear c166
                   by_cases c167 : t377 = true
                   · subst c167
                     rw [if_pos rfl] at H
                     by_cases c168 : t376 = t372
                     rotate_left
                     · exact dead_ (if_neg c168) H hr_
                     rw [if_pos c168] at H
                     have c168b0 : (t376 == t372) = true := beq_iff_eq.mpr c168
                     have c168b1 : (t376 != t372) = false := bne_eq_false_iff_eq.mpr c168
                     clear c168
                     by_cases c169 : t372 < 0
                     · exact dead_ (if_pos c169) H hr_
                     rw [if_neg c169] at H
                     have c169b0 : decide (t372 < 0) = false := decide_eq_false c169
                     clear c169
                     by_cases c170 : t372 > t370
                     · exact dead_ (if_pos c170) H hr_
                     rw [if_neg c170] at H
                     have c170b0 : decide (t370 < t372) = false := decide_eq_false c170
                     clear c170
                     by_cases c171 : t370 > 0
                     · rw [if_pos c171] at H
                       have c171b0 : decide (0 < t370) = true := decide_eq_true c171
                       clear c171
                       replace H := Option.bind_eq_some_iff.mp H
                       obtain ⟨⟨t394, t395⟩, A1720, H⟩ := H
                       dsimp only at H
                       have A172 := Aside0.mk A1720
                       clear A1720
                       by_cases c173 : t395 = true
                       · subst c173
                         rw [if_pos rfl] at H
                         by_cases c174 : ((t394 == t372) != x83_8) = true
                         · exact dead_ (if_pos c174) H hr_
                         rw [if_neg c174] at H
                         have c174b0 : ((t394 == t372) != x83_8) = false := by simpa using c174
                         (try (have c174b1 : decide ((t394 == t372) = x83_8) = true := by simpa using c174))
                         (try (have c174b2 : ((t394 == t372) == x83_8) = true := by simpa using c174))
                         clear c174
                         by_cases c175 : x83_8 = true
                         · subst c175
                           exact absurd c166b0 (by decide)
                         replace c175 := Bool.eq_false_iff.mpr c175
                         subst c175
                         rw [if_neg (show ¬ (false = true) by decide)] at H
                         as_aux_lemma =>
                         by_cases c183 : t394 = (wrap64 (t372 - 1))
                         rotate_left
                         · exact dead_ (if_neg c183) H hr_
                         rw [if_pos c183] at H
                         have c183b0 : (t394 == (wrap64 (t372 - 1))) = true := beq_iff_eq.mpr c183
                         have c183b1 : (t394 != (wrap64 (t372 - 1))) = false := bne_eq_false_iff_eq.mpr c183
                         clear c183
                         by_cases c184 : t383 = true
                         · subst c184
                           rw [if_pos rfl] at H
                           replace H := Option.bind_eq_some_iff.mp H
                           obtain ⟨⟨t398, t399⟩, A1850, H⟩ := H
                           dsimp only at H
                           have A185 := Aside0.mk A1850
                           clear A1850
                           by_cases c186 : t399 = true
                           · subst c186
                             rw [if_pos rfl] at H
                             by_cases c187 : t398 = t380
                             rotate_left
                             · exact dead_ (if_neg c187) H hr_
                             rw [if_pos c187] at H
                             have c187b0 : (t398 == t380) = true := beq_iff_eq.mpr c187
                             have c187b1 : (t398 != t380) = false := bne_eq_false_iff_eq.mpr c187
                             clear c187
                             as_aux_lemma =>
                              obtain rfl := Option.some.inj H
                              go_wp2_with (first | ((with_reducible refine gate_callee (f := 23) rfl ?_); refine goesL_ (some 653) rfl rfl Tryz.func23 (by kernel_rfl) rfl #[.int .i64 (wrap64 (t370 - 1)), .int .i64 t371] rfl z9_1_ ?_; (with_reducible refine (impl_CountWithout.calls k8 (wrap64 (t370 - 1)) t371 t394 true _ ?side1 A172.out).mono ?_); (case side1 => exact Shelf.TabOk.below HT.out z9_0_); rintro e w188 ⟨rfl, hb⟩; refine ⟨_, rfl, ?_⟩; have n0_ := Aside0.mk (below_step z9_0_ hb); clear HB; have HB := n0_; clear n0_; (try clear hb); (try clear hb2); (try clear hk); (try clear hi)) | ((with_reducible refine gate_callee (f := 25) rfl ?_); refine goesL_ (some 679) rfl rfl Tryz.func25 (by kernel_rfl) rfl #[.int .i64 t382, .int .i64 t381] rfl z9_1_ ?_; (with_reducible refine (impl_CountOfCounter.calls k8 t382 t381 t398 true _ ?side1 A185.out).mono ?_); (case side1 => exact Shelf.TabOk.below HT.out z9_0_); rintro e w189 ⟨rfl, hb⟩; refine ⟨_, rfl, ?_⟩; have n0_ := Aside0.mk (below_step z9_0_ hb); clear HB; have HB := n0_; clear n0_; (try clear hb); (try clear hb2); (try clear hk); (try clear hi)))
                              go_ret
                              exact ⟨by first | exact rfl | (simp [errW_none, errW_some] <;> rfl) | (simp [*, errW_none, errW_some] <;> rfl), by repeat (first | (with_reducible first | exact HB.out | apply below_alloc | apply pw_below_drewN | apply below_drew1) | exact HB.out)⟩
                           replace c186 := Bool.eq_false_iff.mpr c186
                           subst c186
                           rw [if_neg (show ¬ (false = true) by decide)] at H
                           as_aux_lemma =>
                            exact dead2_ H hr_
                         replace c184 := Bool.eq_false_iff.mpr c184
                         subst c184
                         rw [if_neg (show ¬ (false = true) by decide)] at H
                         as_aux_lemma =>
                          obtain rfl := Option.some.inj H
                          go_wp2_with (first | ((with_reducible refine gate_callee (f := 23) rfl ?_); refine goesL_ (some 653) rfl rfl Tryz.func23 (by kernel_rfl) rfl #[.int .i64 (wrap64 (t370 - 1)), .int .i64 t371] rfl z9_1_ ?_; (with_reducible refine (impl_CountWithout.calls k8 (wrap64 (t370 - 1)) t371 t394 true _ ?side1 A172.out).mono ?_); (case side1 => exact Shelf.TabOk.below HT.out z9_0_); rintro e w190 ⟨rfl, hb⟩; refine ⟨_, rfl, ?_⟩; have n0_ := Aside0.mk (below_step z9_0_ hb); clear HB; have HB := n0_; clear n0_; (try clear hb); (try clear hb2); (try clear hk); (try clear hi)))
                          go_ret
                          exact ⟨by first | exact rfl | (simp [errW_none, errW_some] <;> rfl) | (simp [*, errW_none, errW_some] <;> rfl), by repeat (first | (with_reducible first | exact HB.out | apply below_alloc | apply pw_below_drewN | apply below_drew1) | exact HB.out)⟩
                       replace c173 := Bool.eq_false_iff.mpr c173
                       subst c173
                       rw [if_neg (show ¬ (false = true) by decide)] at H
                       as_aux_lemma =>
                        exact dead2_ H hr_
                     rw [if_neg c171] at H
                     have c171b0 : decide (0 < t370) = false := decide_eq_false c171
                     clear c171
                     as_aux_lemma =>
                     by_cases c191 : t383 = true
                     · subst c191
                       rw [if_pos rfl] at H
                       replace H := Option.bind_eq_some_iff.mp H
                       obtain ⟨⟨t400, t401⟩, A1920, H⟩ := H
                       dsimp only at H
                       have A192 := Aside0.mk A1920
                       clear A1920
                       by_cases c193 : t401 = true
                       · subst c193
                         rw [if_pos rfl] at H
                         by_cases c194 : t400 = t380
                         rotate_left
                         · exact dead_ (if_neg c194) H hr_
                         rw [if_pos c194] at H
                         have c194b0 : (t400 == t380) = true := beq_iff_eq.mpr c194
                         have c194b1 : (t400 != t380) = false := bne_eq_false_iff_eq.mpr c194
                         clear c194
                         as_aux_lemma =>
                          obtain rfl := Option.some.inj H
                          go_wp2_with (first | ((with_reducible refine gate_callee (f := 25) rfl ?_); refine goesL_ (some 679) rfl rfl Tryz.func25 (by kernel_rfl) rfl #[.int .i64 t382, .int .i64 t381] rfl z9_1_ ?_; (with_reducible refine (impl_CountOfCounter.calls k8 t382 t381 t400 true _ ?side1 A192.out).mono ?_); (case side1 => exact Shelf.TabOk.below HT.out z9_0_); rintro e w195 ⟨rfl, hb⟩; refine ⟨_, rfl, ?_⟩; have n0_ := Aside0.mk (below_step z9_0_ hb); clear HB; have HB := n0_; clear n0_; (try clear hb); (try clear hb2); (try clear hk); (try clear hi)))
                          go_ret
                          exact ⟨by first | exact rfl | (simp [errW_none, errW_some] <;> rfl) | (simp [*, errW_none, errW_some] <;> rfl), by repeat (first | (with_reducible first | exact HB.out | apply below_alloc | apply pw_below_drewN | apply below_drew1) | exact HB.out)⟩
                       replace c193 := Bool.eq_false_iff.mpr c193
                       subst c193
                       rw [if_neg (show ¬ (false = true) by decide)] at H
                       as_aux_lemma =>
                        exact dead2_ H hr_
                     replace c191 := Bool.eq_false_iff.mpr c191
                     subst c191
                     rw [if_neg (show ¬ (false = true) by decide)] at H
                     as_aux_lemma =>
                      obtain rfl := Option.some.inj H
                      go_wp2
                      go_ret
                      exact ⟨by first | exact rfl | (simp [errW_none, errW_some] <;> rfl) | (simp [*, errW_none, errW_some] <;> rfl), by repeat (first | (with_reducible first | exact HB.out | apply below_alloc | apply pw_below_drewN | apply below_drew1) | exact HB.out)⟩
                   replace c167 := Bool.eq_false_iff.mpr c167
                   subst c167
                   rw [if_neg (show ¬ (false = true) by decide)] at H
                   as_aux_lemma =>
                   by_cases c196 : t372 < 0
                   · exact dead_ (if_pos c196) H hr_
                   rw [if_neg c196] at H
                   have c196b0 : decide (t372 < 0) = false := decide_eq_false c196
                   clear c196
                   by_cases c197 : t372 > t370
                   · exact dead_ (if_pos c197) H hr_
                   rw [if_neg c197] at H
                   have c197b0 : decide (t370 < t372) = false := decide_eq_false c197
                   clear c197
                   by_cases c198 : t370 > 0
                   · rw [if_pos c198] at H
                     have c198b0 : decide (0 < t370) = true := decide_eq_true c198
                     clear c198
                     replace H := Option.bind_eq_some_iff.mp H
                     obtain ⟨⟨t402, t403⟩, A1990, H⟩ := H
                     dsimp only at H
                     have A199 := Aside0.mk A1990
                     clear A1990
                     by_cases c200 : t403 = true
                     · subst c200
                       rw [if_pos rfl] at H
                       by_cases c201 : ((t402 == t372) != x83_8) = true
                       · exact dead_ (if_pos c201) H hr_
                       rw [if_neg c201] at H
                       have c201b0 : ((t402 == t372) != x83_8) = false := by simpa using c201
                       (try (have c201b1 : decide ((t402 == t372) = x83_8) = true := by simpa using c201))
                       (try (have c201b2 : ((t402 == t372) == x83_8) = true := by simpa using c201))
                       clear c201
                       by_cases c202 : x83_8 = true
                       · subst c202
                         rw [if_pos rfl] at H
                         by_cases c203 : t383 = true
                         · subst c203
                           rw [if_pos rfl] at H
                           replace H := Option.bind_eq_some_iff.mp H
                           obtain ⟨⟨t404, t405⟩, A2040, H⟩ := H
                           dsimp only at H
                           have A204 := Aside0.mk A2040
                           clear A2040
                           by_cases c205 : t405 = true
                           · subst c205
                             rw [if_pos rfl] at H
                             by_cases c206 : t404 = t380
                             rotate_left
                             · exact dead_ (if_neg c206) H hr_
                             rw [if_pos c206] at H
                             have c206b0 : (t404 == t380) = true := beq_iff_eq.mpr c206
                             have c206b1 : (t404 != t380) = false := bne_eq_false_iff_eq.mpr c206
                             clear c206
                             as_aux_lemma =>
                              obtain rfl := Option.some.inj H
                              go_wp2_with (first | ((with_reducible refine gate_callee (f := 23) rfl ?_); refine goesL_ (some 653) rfl rfl Tryz.func23 (by kernel_rfl) rfl #[.int .i64 (wrap64 (t370 - 1)), .int .i64 t371] rfl z9_1_ ?_; (with_reducible refine (impl_CountWithout.calls k8 (wrap64 (t370 - 1)) t371 t402 true _ ?side1 A199.out).mono ?_); (case side1 => exact Shelf.TabOk.below HT.out z9_0_); rintro e w207 ⟨rfl, hb⟩; refine ⟨_, rfl, ?_⟩; have n0_ := Aside0.mk (below_step z9_0_ hb); clear HB; have HB := n0_; clear n0_; (try clear hb); (try clear hb2); (try clear hk); (try clear hi)) | ((with_reducible refine gate_callee (f := 25) rfl ?_); refine goesL_ (some 679) rfl rfl Tryz.func25 (by kernel_rfl) rfl #[.int .i64 t382, .int .i64 t381] rfl z9_1_ ?_; (with_reducible refine (impl_CountOfCounter.calls k8 t382 t381 t404 true _ ?side1 A204.out).mono ?_); (case side1 => exact Shelf.TabOk.below HT.out z9_0_); rintro e w208 ⟨rfl, hb⟩; refine ⟨_, rfl, ?_⟩; have n0_ := Aside0.mk (below_step z9_0_ hb); clear HB; have HB := n0_; clear n0_; (try clear hb); (try clear hb2); (try clear hk); (try clear hi)))
                              go_ret
                              exact ⟨by first | exact rfl | (simp [errW_none, errW_some] <;> rfl) | (simp [*, errW_none, errW_some] <;> rfl), by repeat (first | (with_reducible first | exact HB.out | apply below_alloc | apply pw_below_drewN | apply below_drew1) | exact HB.out)⟩
                           replace c205 := Bool.eq_false_iff.mpr c205
                           subst c205
                           rw [if_neg (show ¬ (false = true) by decide)] at H
                           as_aux_lemma =>
                            exact dead2_ H hr_
                         replace c203 := Bool.eq_false_iff.mpr c203
                         subst c203
                         rw [if_neg (show ¬ (false = true) by decide)] at H
                         as_aux_lemma =>
                          obtain rfl := Option.some.inj H
                          go_wp2_with (first | ((with_reducible refine gate_callee (f := 23) rfl ?_); refine goesL_ (some 653) rfl rfl Tryz.func23 (by kernel_rfl) rfl #[.int .i64 (wrap64 (t370 - 1)), .int .i64 t371] rfl z9_1_ ?_; (with_reducible refine (impl_CountWithout.calls k8 (wrap64 (t370 - 1)) t371 t402 true _ ?side1 A199.out).mono ?_); (case side1 => exact Shelf.TabOk.below HT.out z9_0_); rintro e w209 ⟨rfl, hb⟩; refine ⟨_, rfl, ?_⟩; have n0_ := Aside0.mk (below_step z9_0_ hb); clear HB; have HB := n0_; clear n0_; (try clear hb); (try clear hb2); (try clear hk); (try clear hi)))
                          go_ret
                          exact ⟨by first | exact rfl | (simp [errW_none, errW_some] <;> rfl) | (simp [*, errW_none, errW_some] <;> rfl), by repeat (first | (with_reducible first | exact HB.out | apply below_alloc | apply pw_below_drewN | apply below_drew1) | exact HB.out)⟩
                       replace c202 := Bool.eq_false_iff.mpr c202
                       subst c202
                       exact absurd c166b0 (by decide)
                     replace c200 := Bool.eq_false_iff.mpr c200
                     subst c200
                     rw [if_neg (show ¬ (false = true) by decide)] at H
                     as_aux_lemma =>
                      exact dead2_ H hr_
                   rw [if_neg c198] at H
                   have c198b0 : decide (0 < t370) = false := decide_eq_false c198
                   clear c198
                   as_aux_lemma =>
                   by_cases c218 : t383 = true
                   · subst c218
                     rw [if_pos rfl] at H
                     replace H := Option.bind_eq_some_iff.mp H
                     obtain ⟨⟨t408, t409⟩, A2190, H⟩ := H
                     dsimp only at H
                     have A219 := Aside0.mk A2190
                     clear A2190
                     by_cases c220 : t409 = true
                     · subst c220
                       rw [if_pos rfl] at H
                       by_cases c221 : t408 = t380
                       rotate_left
                       · exact dead_ (if_neg c221) H hr_
                       rw [if_pos c221] at H
                       have c221b0 : (t408 == t380) = true := beq_iff_eq.mpr c221
                       have c221b1 : (t408 != t380) = false := bne_eq_false_iff_eq.mpr c221
                       clear c221
                       as_aux_lemma =>
                        obtain rfl := Option.some.inj H
                        go_wp2_with (first | ((with_reducible refine gate_callee (f := 25) rfl ?_); refine goesL_ (some 679) rfl rfl Tryz.func25 (by kernel_rfl) rfl #[.int .i64 t382, .int .i64 t381] rfl z9_1_ ?_; (with_reducible refine (impl_CountOfCounter.calls k8 t382 t381 t408 true _ ?side1 A219.out).mono ?_); (case side1 => exact Shelf.TabOk.below HT.out z9_0_); rintro e w222 ⟨rfl, hb⟩; refine ⟨_, rfl, ?_⟩; have n0_ := Aside0.mk (below_step z9_0_ hb); clear HB; have HB := n0_; clear n0_; (try clear hb); (try clear hb2); (try clear hk); (try clear hi)))
                        go_ret
                        exact ⟨by first | exact rfl | (simp [errW_none, errW_some] <;> rfl) | (simp [*, errW_none, errW_some] <;> rfl), by repeat (first | (with_reducible first | exact HB.out | apply below_alloc | apply pw_below_drewN | apply below_drew1) | exact HB.out)⟩
                     replace c220 := Bool.eq_false_iff.mpr c220
                     subst c220
                     rw [if_neg (show ¬ (false = true) by decide)] at H
                     as_aux_lemma =>
                      exact dead2_ H hr_
                   replace c218 := Bool.eq_false_iff.mpr c218
                   subst c218
                   rw [if_neg (show ¬ (false = true) by decide)] at H
                   as_aux_lemma =>
                    obtain rfl := Option.some.inj H
                    go_wp2
                    go_ret
                    exact ⟨by first | exact rfl | (simp [errW_none, errW_some] <;> rfl) | (simp [*, errW_none, errW_some] <;> rfl), by repeat (first | (with_reducible first | exact HB.out | apply below_alloc | apply pw_below_drewN | apply below_drew1) | exact HB.out)⟩
               replace c163 := Bool.eq_false_iff.mpr c163
               subst c163
               rw [if_neg (show ¬ (false = true) by decide)] at H
               as_aux_lemma =>
               by_cases c223 : t383 = true
               · subst c223
                 rw [if_pos rfl] at H
                 replace H := Option.bind_eq_some_iff.mp H
                 obtain ⟨⟨t410, t411⟩, A2240, H⟩ := H
                 dsimp only at H
                 have A224 := Aside0.mk A2240
                 clear A2240
                 by_cases c225 : t411 = true
                 · subst c225
                   rw [if_pos rfl] at H
                   by_cases c226 : t410 = t380
                   rotate_left
                   · exact dead_ (if_neg c226) H hr_
                   rw [if_pos c226] at H
                   have c226b0 : (t410 == t380) = true := beq_iff_eq.mpr c226
                   have c226b1 : (t410 != t380) = false := bne_eq_false_iff_eq.mpr c226
                   clear c226
                   as_aux_lemma =>
                    obtain rfl := Option.some.inj H
                    go_wp2_with (first | ((with_reducible refine gate_callee (f := 25) rfl ?_); refine goesL_ (some 679) rfl rfl Tryz.func25 (by kernel_rfl) rfl #[.int .i64 t382, .int .i64 t381] rfl z9_1_ ?_; (with_reducible refine (impl_CountOfCounter.calls kj152 t382 t381 t410 true _ ?side1 A224.out).mono ?_); (case side1 => exact Shelf.TabOk.below HT.out z9_0_); rintro e w227 ⟨rfl, hb⟩; refine ⟨_, rfl, ?_⟩; have n0_ := Aside0.mk (below_step z9_0_ hb); clear HB; have HB := n0_; clear n0_; (try clear hb); (try clear hb2); (try clear hk); (try clear hi)))
                    go_ret
                    exact ⟨by first | exact rfl | (simp [errW_none, errW_some] <;> rfl) | (simp [*, errW_none, errW_some] <;> rfl), by repeat (first | (with_reducible first | exact HB.out | apply below_alloc | apply pw_below_drewN | apply below_drew1) | exact HB.out)⟩
                 replace c225 := Bool.eq_false_iff.mpr c225
                 subst c225
                 rw [if_neg (show ¬ (false = true) by decide)] at H
                 as_aux_lemma =>
                  exact dead2_ H hr_
               replace c223 := Bool.eq_false_iff.mpr c223
               subst c223
               rw [if_neg (show ¬ (false = true) by decide)] at H
               as_aux_lemma =>
                obtain rfl := Option.some.inj H
                go_wp2
                go_ret
                exact ⟨by first | exact rfl | (simp [errW_none, errW_some] <;> rfl) | (simp [*, errW_none, errW_some] <;> rfl), by repeat (first | (with_reducible first | exact HB.out | apply below_alloc | apply pw_below_drewN | apply below_drew1) | exact HB.out)⟩

/-- THE ONE PURE STATEMENT of laws_FnDigitsSummed: yours. -/
def laws_FnDigitsSummed.Pure : Prop := ∀ (l0 : List Int) (l1 : List Int), l0.length ≤ maxLen → l0.length * 1 ≤ 140737488351232 → (∀ x ∈ l0, (Lit.int .u8 x).wf = true) → l1.length ≤ maxLen → l1.length * 1 ≤ 140737488351232 → (∀ x ∈ l1, (Lit.int .u8 x).wf = true) → ∃ k, laws_FnDigitsSummed.f k l0 l1 = some true
theorem laws_FnDigitsSummed.walk (P : laws_FnDigitsSummed.Pure) (a0 : Option Addr) (len0 cap0 : Nat) (z0 : List Int) (a1 : Option Addr) (len1 cap1 : Nat) (z1 : List Int) (w : World) (hT : Shelf.TabOk w) (w0 : (a0 = none ∧ len0 = 0 ∧ cap0 = 0 ∧ z0 = []) ∨ ∃ x, a0 = some x ∧ len0 ≤ cap0 ∧ cap0 ≤ maxLen ∧ z0.length = cap0 ∧ (∀ i, i < z0.length → w.cell? (x.add i) = some (.int .u8 (z0.getD i 0))) ∧ ∀ n ∈ z0, (Lit.int .u8 n).wf = true) (y0 : len0 * 1 ≤ 140737488351232) (w1 : (a1 = none ∧ len1 = 0 ∧ cap1 = 0 ∧ z1 = []) ∨ ∃ x, a1 = some x ∧ len1 ≤ cap1 ∧ cap1 ≤ maxLen ∧ z1.length = cap1 ∧ (∀ i, i < z1.length → w.cell? (x.add i) = some (.int .u8 (z1.getD i 0))) ∧ ∀ n ∈ z1, (Lit.int .u8 n).wf = true) (y1 : len1 * 1 ≤ 140737488351232) :
 Calls Tryz.prog 3 #[.slice a0 len0 cap0, .slice a1 len1 cap1] w fun e w' => e = .returned (.bool true) ∧ Below w.heap.size w w' := by
 obtain ⟨l0, rfl, hr0, hm0, hw0, hc0⟩ := ReadsInt.ofRowC w0
 obtain ⟨l1, rfl, hr1, hm1, hw1, hc1⟩ := ReadsInt.ofRowC w1
 obtain ⟨k, h⟩ := P l0 l1 hm0 y0 hw0 hm1 y1 hw1
 refine (laws_FnDigitsSummed.calls k _ _ l0 _ _ l1 true w hT (Kd.C_of_reads (d := (0 : Int)) (h1 := fun _ => rfl) hr0) hc0 (Kd.C_of_reads (d := (0 : Int)) (h1 := fun _ => rfl) hr1) hc1 (Aside0.mk rfl) h).mono ?_
 rintro e w' ⟨rfl, hd⟩
 exact ⟨rfl, hd⟩

end Go.Proofs.YtjpbadckmackbaaGreatDoor.PFnDigitsSummed

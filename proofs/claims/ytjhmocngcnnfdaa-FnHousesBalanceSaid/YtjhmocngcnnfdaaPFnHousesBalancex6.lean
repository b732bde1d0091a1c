-- Laid by this session's program gprint.py over the kit's print.
import Derived.Test.YtjhmocngcnnfdaaPFnHousesBalancex0
import Derived.Test.YtjhmocngcnnfdaaPFnHousesBalancex1
import Derived.Test.YtjhmocngcnnfdaaPFnHousesBalancex2
import Derived.Test.YtjhmocngcnnfdaaPFnHousesBalancex3
import Derived.Test.YtjhmocngcnnfdaaPFnHousesBalancex4
import Derived.Test.YtjhmocngcnnfdaaPFnHousesBalancex5
namespace Go.Proofs.Ytjhmocngcnnfdaa.PFnHousesBalance
open Go.RowKit Go.Proofs.YtjhmocngcnnfdaaW.PrintWords Go.Proofs.YtjhmocngcnnfdaaW.PrintLast Go.Proofs.YtjhmocngcnnfdaaW.PrintMore
attribute [local go_sem] max2_int min2_int max_two min_two max_three min_three max_four min_four   -- for this text's walks alone
set_option linter.unusedVariables false
set_option linter.unusedSimpArgs false
theorem z6_0_ {p : Prop} (h : p := by repeat (first | (with_reducible exact HR398_0.out) | (with_reducible refine Kd.C_alloc ?_ _) | (with_reducible refine Kd.C_drewN ?_ _) | (with_reducible refine Kd.C_drew ?_) | exact HR398_0.out)) : p := h
theorem z6_1_ {p : Prop} (h : p := by first | (with_reducible assumption) | assumption) : p := h
theorem z6_2_ {p : Prop} (h : p := by repeat (first | (with_reducible first | exact HB.out | apply below_alloc | apply pw_below_drewN | apply below_drew1) | exact HB.out)) : p := h
theorem z6_3_ {p : Prop} (h : p := by repeat (first | (with_reducible exact HR372_0.out) | (with_reducible refine Kd.C_alloc ?_ _) | (with_reducible refine Kd.C_drewN ?_ _) | (with_reducible refine Kd.C_drew ?_) | exact HR372_0.out)) : p := h
theorem z6_4_ {p : Prop} (h : p := by (with_reducible repeat (first | apply Kd.S_alloc | apply Kd.S_drewN | apply Kd.S_drew)); exact HO327.out) : p := h
theorem z6_5_ {p : Prop} (h : p := by (with_reducible repeat (first | apply Kd.S_alloc | apply Kd.S_drewN | apply Kd.S_drew)); exact HO331.out) : p := h
theorem z6_6_ {p : Prop} (h : p := by (with_reducible repeat (first | apply Kd.S_alloc | apply Kd.S_drewN | apply Kd.S_drew)); exact HO335.out) : p := h
theorem z6_7_ {p : Prop} (h : p := by first | rfl | (simp; done) | (simp [*]; done)) : p := h
theorem z6_8_ {p : Prop} (h : p := by (with_reducible repeat (first | apply Kd.S_alloc | apply Kd.S_drewN | apply Kd.S_drew)); exact HO339.out) : p := h
theorem z6_9_ {p : Prop} (h : p := by (with_reducible repeat (first | apply Kd.R_alloc | apply Kd.R_drewN | apply Kd.R_drew)); exact HO343.out) : p := h
theorem z6_10_ {p : Prop} (h : p := by repeat (first | (with_reducible exact HR408_0.out) | (with_reducible refine Kd.C_alloc ?_ _) | (with_reducible refine Kd.C_drewN ?_ _) | (with_reducible refine Kd.C_drew ?_) | exact HR408_0.out)) : p := h
theorem z6_11_ {p : Prop} (h : p := by (with_reducible repeat (first | apply Kd.R_alloc | apply Kd.R_drewN | apply Kd.R_drew)); exact HO347.out) : p := h
theorem z6_12_ {p : Prop} (h : p := by first | exact q398 | exact of_decide_eq_true z6_1_ | (have e_ := (Kd.S_reads' HO_541.out).1; omega)) : p := h

/-! ### laws_FnHousesBalance: function 4 -/
mutual
def laws_FnHousesBalance.j0 : Nat → List Int → Int → Int → Int → Bool → Int → Bool → Int → Int → Bool → Int → Bool → Option (Bool)
 | 0, _, _, _, _, _, _, _, _, _, _, _, _ => none
 | k + 1, x1, x5, x6, x7, x8, x11, x12, x15, x16, x17, x21, x181 => if x181 = true then (some false) else (if x8 = true then ((impl_SumLeft.f k x5 x6 x7).bind fun bt317 => ((impl_SumRight.f k x5 x6 x7).bind fun bt319 => (if x7 < x5 then (some false) else (if x7 > x6 then (some false) else (if bt317.2 = true then (if bt319.2 = true then (if bt317.1 = bt319.1 then (if (wrap64 ((wrap64 (bt317.1 + bt319.1)) + x7)) = x21 then (laws_FnHousesBalance.j1 k x1 x5 x6 x11 x12 x15 x16 x17 x21) else (some false)) else (some false)) else (some false)) else (some false)))))) else (laws_FnHousesBalance.j1 k x1 x5 x6 x11 x12 x15 x16 x17 x21))
def laws_FnHousesBalance.j1 : Nat → List Int → Int → Int → Int → Bool → Int → Int → Bool → Int → Option (Bool)
 | 0, _, _, _, _, _, _, _, _, _ => none
 | k + 1, x1, x5, x6, x11, x12, x15, x16, x17, x21 => if x12 = true then ((impl_SumOfHouses.f x5 x11 1).bind fun bt321 => (if bt321.2 = true then (if (wrap64 (2 * bt321.1)) = x21 then (if x11 < x5 then (some false) else (if x11 ≥ x6 then (some false) else (laws_FnHousesBalance.j2 k x1 x5 x6 x15 x16 x17 x21))) else (some false)) else (some false))) else (laws_FnHousesBalance.j2 k x1 x5 x6 x15 x16 x17 x21)
def laws_FnHousesBalance.j2 : Nat → List Int → Int → Int → Int → Int → Bool → Int → Option (Bool)
 | 0, _, _, _, _, _, _, _ => none
 | k + 1, x1, x5, x6, x15, x16, x17, x21 => if x17 = true then (if x16 = 1 then (if x16 = 2 then (if (Int.tmod x15 2) = 0 then (laws_FnHousesBalance.j3 k x1 true) else (if (wrap64 (2 * x15)) = (wrap64 ((wrap64 (x5 + x6)) * x16)) then (laws_FnHousesBalance.j3 k x1 ((wrap64 (x21 * 2)) != (wrap64 ((wrap64 (x5 + x6)) * (wrap64 ((wrap64 (x6 - x5)) + 1)))))) else (laws_FnHousesBalance.j3 k x1 true))) else (if (wrap64 (2 * x15)) = (wrap64 ((wrap64 (x5 + x6)) * x16)) then (laws_FnHousesBalance.j3 k x1 ((wrap64 (x21 * 2)) != (wrap64 ((wrap64 (x5 + x6)) * (wrap64 ((wrap64 (x6 - x5)) + 1)))))) else (laws_FnHousesBalance.j3 k x1 true))) else (if x16 = 2 then (if (Int.tmod x15 2) = 0 then (laws_FnHousesBalance.j3 k x1 true) else (if (wrap64 (2 * x15)) = (wrap64 ((wrap64 (x5 + x6)) * x16)) then (laws_FnHousesBalance.j3 k x1 ((wrap64 (x21 * 2)) != (wrap64 ((wrap64 (x5 + x6)) * (wrap64 ((wrap64 (x6 - x5)) + 1)))))) else (laws_FnHousesBalance.j3 k x1 true))) else (laws_FnHousesBalance.j3 k x1 true))) else (laws_FnHousesBalance.j3 k x1 false)
def laws_FnHousesBalance.j3 : Nat → List Int → Bool → Option (Bool)
 | 0, _, _ => none
 | k + 1, x1, x292 => if x292 = true then (some false) else ((spec_DrawBalancedStreets.f x1).bind fun t323 => ((impl_BalancedStreets.f k t323).bind fun bt324 => ((spec_BalancedStreets.f k t323).bind fun bt328 => ((impl_BalancedOdd.f k t323).bind fun bt332 => ((spec_BalancedOdd.f k t323).bind fun bt336 => ((impl_SquareStreets.f k t323).bind fun bt340 => ((spec_SquareStreets.f k t323).bind fun bt344 => ((spec_DrawSumLeft.f k x1).bind fun bt348 => ((impl_SumLeft.f k bt348.1 bt348.2.1 bt348.2.2).bind fun bt351 => ((spec_SumLeft.f bt348.1 bt348.2.1 bt348.2.2).bind fun bt353 => ((impl_SumRight.f k bt348.1 bt348.2.1 bt348.2.2).bind fun bt355 => ((spec_SumRight.f bt348.1 bt348.2.1 bt348.2.2).bind fun bt357 => ((spec_DrawSumOfHouses.f k x1).bind fun bt359 => ((impl_SumOfHouses.f bt359.1 bt359.2.1 bt359.2.2).bind fun bt362 => ((spec_SumOfHouses.f bt359.1 bt359.2.1 bt359.2.2).bind fun bt364 => (if (bt324.2 != bt328.2) = true then (some false) else ((laws_iRows.f k bt324.1 bt328.1).bind fun t369 => (if t369 = true then (if (bt332.2 != bt336.2) = true then (some false) else ((laws_iRows.f k bt332.1 bt336.1).bind fun t370 => (if t370 = true then (if (bt340.2 != bt344.2) = true then (some false) else ((laws_iSame.f k bt340.1 bt344.1).bind fun t371 => (if t371 = true then (if (bt351.2 != bt353.2) = true then (some false) else (if bt351.1 = bt353.1 then (if (bt355.2 != bt357.2) = true then (some false) else (if bt355.1 = bt357.1 then (if (bt362.2 != bt364.2) = true then (some false) else (if bt362.1 = bt364.1 then (if (bt355.2 != bt351.2) = true then (some false) else (if (bt332.2 != bt324.2) = true then (some false) else (if (bt340.2 != bt324.2) = true then (some false) else (if bt324.2 = true then (if (bt324.1.length : Int) = (bt340.1.length : Int) then (laws_FnHousesBalance.l0 k t323 bt324.1 bt332.1 bt340.1 bt348.1 bt348.2.1 bt348.2.2 bt351.1 bt351.2 bt355.1 bt359.1 bt359.2.1 bt359.2.2 bt362.1 bt362.2 bt324.1 (bt324.1.length : Int) 0) else (some false)) else (laws_FnHousesBalance.j8 k bt348.1 bt348.2.1 bt348.2.2 bt351.1 bt351.2 bt355.1 bt359.1 bt359.2.1 bt359.2.2 bt362.1 bt362.2))))) else (some false))) else (some false))) else (some false))) else (some false)))) else (some false)))) else (some false)))))))))))))))))))
def laws_FnHousesBalance.j8 : Nat → Int → Int → Int → Int → Bool → Int → Int → Int → Int → Int → Bool → Option (Bool)
 | 0, _, _, _, _, _, _, _, _, _, _, _ => none
 | k + 1, x42, x43, x44, x45, x46, x49, x53, x54, x55, x56, x57 => if x46 = true then ((impl_SumOfHouses.f x42 x43 1).bind fun bt431 => (if bt431.2 = true then (if (wrap64 ((wrap64 (x45 + x44)) + x49)) = bt431.1 then (if x57 = true then (if (wrap64 (x53 + x55)) ≤ x54 then ((impl_SumOfHouses.f (wrap64 (x53 + x55)) x54 x55).bind fun bt433 => (if bt433.2 = true then (if (wrap64 (bt433.1 + x53)) = x56 then (some true) else (some false)) else (some false))) else (some true)) else (some true)) else (some false)) else (some false))) else (if x57 = true then (if (wrap64 (x53 + x55)) ≤ x54 then ((impl_SumOfHouses.f (wrap64 (x53 + x55)) x54 x55).bind fun bt435 => (if bt435.2 = true then (if (wrap64 (bt435.1 + x53)) = x56 then (some true) else (some false)) else (some false))) else (some true)) else (some true))
def laws_FnHousesBalance.l0 : Nat → Int → List (List Int) → List (List Int) → List Int → Int → Int → Int → Int → Bool → Int → Int → Int → Int → Int → Bool → List (List Int) → Int → Int → Option (Bool)
 | 0, _, _, _, _, _, _, _, _, _, _, _, _, _, _, _, _, _, _ => none
 | k + 1, x29, x30, x34, x38, x42, x43, x44, x45, x46, x49, x53, x54, x55, x56, x57, x461, x462, x463 => if x463 < x462 then (if 0 ≤ x463 then (if x463 < (x461.length : Int) then (if ((rd_L2 x461 x463).length : Int) = 2 then (if 1 < ((rd_L2 x461 x463).length : Int) then (if x463 < (x38.length : Int) then (if (rd (rd_L2 x461 x463) 1) = (rd x38 x463) then (if (rd (rd_L2 x461 x463) 1) > x29 then (some false) else (if x463 > 0 then (if 0 ≤ (wrap64 (x463 - 1)) then (if (wrap64 (x463 - 1)) < (x30.length : Int) then (if 1 < ((rd_L2 x30 (wrap64 (x463 - 1))).length : Int) then (if (rd (rd_L2 x30 (wrap64 (x463 - 1))) 1) ≥ (rd (rd_L2 x461 x463) 1) then (some false) else ((impl_BalancedHouse.f k 1 (rd (rd_L2 x461 x463) 1)).bind fun bt386 => (if bt386.2 = true then (if 0 < ((rd_L2 x461 x463).length : Int) then (if bt386.1 = (rd (rd_L2 x461 x463) 0) then (laws_FnHousesBalance.l0 k x29 x30 x34 x38 x42 x43 x44 x45 x46 x49 x53 x54 x55 x56 x57 x461 x462 (wrap64 (x463 + 1))) else (some false)) else (none)) else (some false)))) else (none)) else (none)) else (none)) else ((impl_BalancedHouse.f k 1 (rd (rd_L2 x461 x463) 1)).bind fun bt391 => (if bt391.2 = true then (if 0 < ((rd_L2 x461 x463).length : Int) then (if bt391.1 = (rd (rd_L2 x461 x463) 0) then (laws_FnHousesBalance.l0 k x29 x30 x34 x38 x42 x43 x44 x45 x46 x49 x53 x54 x55 x56 x57 x461 x462 (wrap64 (x463 + 1))) else (some false)) else (none)) else (some false))))) else (some false)) else (none)) else (none)) else (some false)) else (none)) else (none)) else (laws_FnHousesBalance.l1 k x29 x34 x38 x42 x43 x44 x45 x46 x49 x53 x54 x55 x56 x57 1)
def laws_FnHousesBalance.j6 : Nat → Int → List (List Int) → Int → Int → Int → Int → Bool → Int → Int → Int → Int → Int → Bool → Option (Bool)
 | 0, _, _, _, _, _, _, _, _, _, _, _, _, _ => none
 | k + 1, x29, x34, x42, x43, x44, x45, x46, x49, x53, x54, x55, x56, x57 => laws_FnHousesBalance.l2 k x29 x34 x42 x43 x44 x45 x46 x49 x53 x54 x55 x56 x57 x34 (x34.length : Int) 0
def laws_FnHousesBalance.l2 : Nat → Int → List (List Int) → Int → Int → Int → Int → Bool → Int → Int → Int → Int → Int → Bool → List (List Int) → Int → Int → Option (Bool)
 | 0, _, _, _, _, _, _, _, _, _, _, _, _, _, _, _, _ => none
 | k + 1, x29, x34, x42, x43, x44, x45, x46, x49, x53, x54, x55, x56, x57, x541, x542, x543 => if x543 < x542 then (if 0 ≤ x543 then (if x543 < (x541.length : Int) then (if ((rd_L2 x541 x543).length : Int) = 2 then (if 0 < ((rd_L2 x541 x543).length : Int) then (if (Int.tmod (rd (rd_L2 x541 x543) 0) 2) = 1 then (if 1 < ((rd_L2 x541 x543).length : Int) then (if (Int.tmod (rd (rd_L2 x541 x543) 1) 2) = 1 then (if (rd (rd_L2 x541 x543) 1) > x29 then (some false) else (if x543 > 0 then (if 0 ≤ (wrap64 (x543 - 1)) then (if (wrap64 (x543 - 1)) < (x34.length : Int) then (if 1 < ((rd_L2 x34 (wrap64 (x543 - 1))).length : Int) then (if (rd (rd_L2 x34 (wrap64 (x543 - 1))) 1) ≥ (rd (rd_L2 x541 x543) 1) then (some false) else (if (rd (rd_L2 x541 x543) 0) > 1 then ((impl_SumOfHouses.f 1 (wrap64 ((rd (rd_L2 x541 x543) 0) - 2)) 2).bind fun bt413 => (if (rd (rd_L2 x541 x543) 1) > (rd (rd_L2 x541 x543) 0) then ((impl_SumOfHouses.f (wrap64 ((rd (rd_L2 x541 x543) 0) + 2)) (rd (rd_L2 x541 x543) 1) 2).bind fun bt419 => (if bt419.2 = true then (if bt413.2 = true then (if bt413.1 = bt419.1 then (laws_FnHousesBalance.l2 k x29 x34 x42 x43 x44 x45 x46 x49 x53 x54 x55 x56 x57 x541 x542 (wrap64 (x543 + 1))) else (some false)) else (some false)) else (some false))) else (if bt413.2 = true then (if bt413.1 = 0 then (laws_FnHousesBalance.l2 k x29 x34 x42 x43 x44 x45 x46 x49 x53 x54 x55 x56 x57 x541 x542 (wrap64 (x543 + 1))) else (some false)) else (some false)))) else (laws_FnHousesBalance.l2 k x29 x34 x42 x43 x44 x45 x46 x49 x53 x54 x55 x56 x57 x541 x542 (wrap64 (x543 + 1))))) else (none)) else (none)) else (none)) else (if (rd (rd_L2 x541 x543) 0) > 1 then ((impl_SumOfHouses.f 1 (wrap64 ((rd (rd_L2 x541 x543) 0) - 2)) 2).bind fun bt423 => (if (rd (rd_L2 x541 x543) 1) > (rd (rd_L2 x541 x543) 0) then ((impl_SumOfHouses.f (wrap64 ((rd (rd_L2 x541 x543) 0) + 2)) (rd (rd_L2 x541 x543) 1) 2).bind fun bt429 => (if bt429.2 = true then (if bt423.2 = true then (if bt423.1 = bt429.1 then (laws_FnHousesBalance.l2 k x29 x34 x42 x43 x44 x45 x46 x49 x53 x54 x55 x56 x57 x541 x542 (wrap64 (x543 + 1))) else (some false)) else (some false)) else (some false))) else (if bt423.2 = true then (if bt423.1 = 0 then (laws_FnHousesBalance.l2 k x29 x34 x42 x43 x44 x45 x46 x49 x53 x54 x55 x56 x57 x541 x542 (wrap64 (x543 + 1))) else (some false)) else (some false)))) else (laws_FnHousesBalance.l2 k x29 x34 x42 x43 x44 x45 x46 x49 x53 x54 x55 x56 x57 x541 x542 (wrap64 (x543 + 1)))))) else (some false)) else (none)) else (some false)) else (none)) else (some false)) else (none)) else (none)) else (laws_FnHousesBalance.j8 k x42 x43 x44 x45 x46 x49 x53 x54 x55 x56 x57)
def laws_FnHousesBalance.l1 : Nat → Int → List (List Int) → List Int → Int → Int → Int → Int → Bool → Int → Int → Int → Int → Int → Bool → Int → Option (Bool)
 | 0, _, _, _, _, _, _, _, _, _, _, _, _, _, _, _ => none
 | k + 1, x29, x34, x38, x42, x43, x44, x45, x46, x49, x53, x54, x55, x56, x57, x64 => if x64 ≤ x29 then (if x64 ≤ 60 then ((impl_BalancedHouse.f k 1 x64).bind fun bt395 => ((laws_iHas.f k x38 x64).bind fun t397 => (if (bt395.2 != t397) = true then (some false) else (laws_FnHousesBalance.l1 k x29 x34 x38 x42 x43 x44 x45 x46 x49 x53 x54 x55 x56 x57 (wrap64 (x64 + 1)))))) else (laws_FnHousesBalance.j6 k x29 x34 x42 x43 x44 x45 x46 x49 x53 x54 x55 x56 x57)) else (laws_FnHousesBalance.j6 k x29 x34 x42 x43 x44 x45 x46 x49 x53 x54 x55 x56 x57)
end
def laws_FnHousesBalance.f (k : Nat) (l0 : List Int) (l1 : List Int) : Option (Bool) := (laws_big.f l0 l1).bind fun t298 => (if t298 = true then (some true) else ((spec_DrawBalancedHouse.f k l0).bind fun bt299 => ((impl_BalancedHouse.f k bt299.1 bt299.2).bind fun bt301 => ((spec_BalancedHouse.f k bt299.1 bt299.2).bind fun bt303 => ((impl_DoubleSum.f k bt299.1 bt299.2).bind fun bt305 => ((spec_DoubleSum.f k bt299.1 bt299.2).bind fun bt307 => ((impl_MiddleHouse.f bt299.1 bt299.2).bind fun bt309 => ((spec_MiddleHouse.f bt299.1 bt299.2).bind fun bt312 => ((impl_SumOfHouses.f bt299.1 bt299.2 1).bind fun bt315 => (if (bt301.2 != bt303.2) = true then (laws_FnHousesBalance.j0 k l1 bt299.1 bt299.2 bt301.1 bt301.2 bt305.1 bt305.2 bt309.1 bt309.2.1 bt309.2.2 bt315.1 true) else (if bt301.1 = bt303.1 then (if (bt305.2 != bt307.2) = true then (laws_FnHousesBalance.j0 k l1 bt299.1 bt299.2 bt301.1 bt301.2 bt305.1 bt305.2 bt309.1 bt309.2.1 bt309.2.2 bt315.1 true) else (if bt305.1 = bt307.1 then (if (bt309.2.2 != bt312.2.2) = true then (laws_FnHousesBalance.j0 k l1 bt299.1 bt299.2 bt301.1 bt301.2 bt305.1 bt305.2 bt309.1 bt309.2.1 bt309.2.2 bt315.1 true) else (if bt309.1 = bt312.1 then (if bt309.2.1 = bt312.2.1 then (if (bt315.2 != bt309.2.2) = true then (laws_FnHousesBalance.j0 k l1 bt299.1 bt299.2 bt301.1 bt301.2 bt305.1 bt305.2 bt309.1 bt309.2.1 bt309.2.2 bt315.1 true) else (if bt301.2 = true then (if bt309.2.2 = true then (if bt305.2 = true then (laws_FnHousesBalance.j0 k l1 bt299.1 bt299.2 bt301.1 bt301.2 bt305.1 bt305.2 bt309.1 bt309.2.1 bt309.2.2 bt315.1 (!bt309.2.2)) else (laws_FnHousesBalance.j0 k l1 bt299.1 bt299.2 bt301.1 bt301.2 bt305.1 bt305.2 bt309.1 bt309.2.1 bt309.2.2 bt315.1 false)) else (laws_FnHousesBalance.j0 k l1 bt299.1 bt299.2 bt301.1 bt301.2 bt305.1 bt305.2 bt309.1 bt309.2.1 bt309.2.2 bt315.1 true)) else (if bt305.2 = true then (laws_FnHousesBalance.j0 k l1 bt299.1 bt299.2 bt301.1 bt301.2 bt305.1 bt305.2 bt309.1 bt309.2.1 bt309.2.2 bt315.1 (!bt309.2.2)) else (laws_FnHousesBalance.j0 k l1 bt299.1 bt299.2 bt301.1 bt301.2 bt305.1 bt305.2 bt309.1 bt309.2.1 bt309.2.2 bt315.1 false)))) else (laws_FnHousesBalance.j0 k l1 bt299.1 bt299.2 bt301.1 bt301.2 bt305.1 bt305.2 bt309.1 bt309.2.1 bt309.2.2 bt315.1 true)) else (laws_FnHousesBalance.j0 k l1 bt299.1 bt299.2 bt301.1 bt301.2 bt305.1 bt305.2 bt309.1 bt309.2.1 bt309.2.2 bt315.1 true))) else (laws_FnHousesBalance.j0 k l1 bt299.1 bt299.2 bt301.1 bt301.2 bt305.1 bt305.2 bt309.1 bt309.2.1 bt309.2.2 bt315.1 true))) else (laws_FnHousesBalance.j0 k l1 bt299.1 bt299.2 bt301.1 bt301.2 bt305.1 bt305.2 bt309.1 bt309.2.1 bt309.2.2 bt315.1 true))))))))))))
theorem laws_FnHousesBalance.j0_dead {k : Nat} {x1 : List Int} {x5 : Int} {x6 : Int} {x7 : Int} {x8 : Bool} {x11 : Int} {x12 : Bool} {x15 : Int} {x16 : Int} {x17 : Bool} {x21 : Int} {r : Bool} {P : Prop} (H : laws_FnHousesBalance.j0 k x1 x5 x6 x7 x8 x11 x12 x15 x16 x17 x21 true = some r) (h : Aside0 (r = true)) : P := by
 cases k with
 | zero => exact none_ (by simp only [laws_FnHousesBalance.j0]) H
 | succ k => exact dead_ (by simp only [laws_FnHousesBalance.j0]; first | exact if_pos rfl | exact if_pos trivial) H h
theorem laws_FnHousesBalance.j3_dead {k : Nat} {x1 : List Int} {r : Bool} {P : Prop} (H : laws_FnHousesBalance.j3 k x1 true = some r) (h : Aside0 (r = true)) : P := by
 cases k with
 | zero => exact none_ (by simp only [laws_FnHousesBalance.j3]) H
 | succ k => exact dead_ (by simp only [laws_FnHousesBalance.j3]; first | exact if_pos rfl | exact if_pos trivial) H h
set_option maxHeartbeats 64000000 in
set_option maxRecDepth 100000 in
theorem laws_FnHousesBalance.calls (k : Nat) (A0 : Option Addr) (c0 : Nat) (l0 : List Int) (A1 : Option Addr) (c1 : Nat) (l1 : List Int) (r : Bool) (w : World) (hr0 : Kd.C (Kd.int .u8) w A0 l0.length l0) (hc0 : l0.length ≤ c0) (hr1 : Kd.C (Kd.int .u8) w A1 l1.length l1) (hc1 : l1.length ≤ c1) (hr_ : Aside0 (r = true)) (h : laws_FnHousesBalance.f k l0 l1 = some r) :
 Calls Try.prog 4 #[.slice A0 l0.length c0, .slice A1 l1.length c1] w fun e w' => e = .returned (.bool r) ∧ Below w.heap.size w w' := by
 have HR0 := Aside0.mk hr0
 have HC0 := Aside0.mk hc0
 clear hr0 hc0
 have HR1 := Aside0.mk hr1
 have HC1 := Aside0.mk hc1
 clear hr1 hc1
 have HB := Aside0.mk (Below.refl w.heap.size w)
 have H : ((laws_big.f l0 l1).bind fun t298 => (if t298 = true then (some true) else ((spec_DrawBalancedHouse.f k l0).bind fun bt299 => ((impl_BalancedHouse.f k bt299.1 bt299.2).bind fun bt301 => ((spec_BalancedHouse.f k bt299.1 bt299.2).bind fun bt303 => ((impl_DoubleSum.f k bt299.1 bt299.2).bind fun bt305 => ((spec_DoubleSum.f k bt299.1 bt299.2).bind fun bt307 => ((impl_MiddleHouse.f bt299.1 bt299.2).bind fun bt309 => ((spec_MiddleHouse.f bt299.1 bt299.2).bind fun bt312 => ((impl_SumOfHouses.f bt299.1 bt299.2 1).bind fun bt315 => (if (bt301.2 != bt303.2) = true then (laws_FnHousesBalance.j0 k l1 bt299.1 bt299.2 bt301.1 bt301.2 bt305.1 bt305.2 bt309.1 bt309.2.1 bt309.2.2 bt315.1 true) else (if bt301.1 = bt303.1 then (if (bt305.2 != bt307.2) = true then (laws_FnHousesBalance.j0 k l1 bt299.1 bt299.2 bt301.1 bt301.2 bt305.1 bt305.2 bt309.1 bt309.2.1 bt309.2.2 bt315.1 true) else (if bt305.1 = bt307.1 then (if (bt309.2.2 != bt312.2.2) = true then (laws_FnHousesBalance.j0 k l1 bt299.1 bt299.2 bt301.1 bt301.2 bt305.1 bt305.2 bt309.1 bt309.2.1 bt309.2.2 bt315.1 true) else (if bt309.1 = bt312.1 then (if bt309.2.1 = bt312.2.1 then (if (bt315.2 != bt309.2.2) = true then (laws_FnHousesBalance.j0 k l1 bt299.1 bt299.2 bt301.1 bt301.2 bt305.1 bt305.2 bt309.1 bt309.2.1 bt309.2.2 bt315.1 true) else (if bt301.2 = true then (if bt309.2.2 = true then (if bt305.2 = true then (laws_FnHousesBalance.j0 k l1 bt299.1 bt299.2 bt301.1 bt301.2 bt305.1 bt305.2 bt309.1 bt309.2.1 bt309.2.2 bt315.1 (!bt309.2.2)) else (laws_FnHousesBalance.j0 k l1 bt299.1 bt299.2 bt301.1 bt301.2 bt305.1 bt305.2 bt309.1 bt309.2.1 bt309.2.2 bt315.1 false)) else (laws_FnHousesBalance.j0 k l1 bt299.1 bt299.2 bt301.1 bt301.2 bt305.1 bt305.2 bt309.1 bt309.2.1 bt309.2.2 bt315.1 true)) else (if bt305.2 = true then (laws_FnHousesBalance.j0 k l1 bt299.1 bt299.2 bt301.1 bt301.2 bt305.1 bt305.2 bt309.1 bt309.2.1 bt309.2.2 bt315.1 (!bt309.2.2)) else (laws_FnHousesBalance.j0 k l1 bt299.1 bt299.2 bt301.1 bt301.2 bt305.1 bt305.2 bt309.1 bt309.2.1 bt309.2.2 bt315.1 false)))) else (laws_FnHousesBalance.j0 k l1 bt299.1 bt299.2 bt301.1 bt301.2 bt305.1 bt305.2 bt309.1 bt309.2.1 bt309.2.2 bt315.1 true)) else (laws_FnHousesBalance.j0 k l1 bt299.1 bt299.2 bt301.1 bt301.2 bt305.1 bt305.2 bt309.1 bt309.2.1 bt309.2.2 bt315.1 true))) else (laws_FnHousesBalance.j0 k l1 bt299.1 bt299.2 bt301.1 bt301.2 bt305.1 bt305.2 bt309.1 bt309.2.1 bt309.2.2 bt315.1 true))) else (laws_FnHousesBalance.j0 k l1 bt299.1 bt299.2 bt301.1 bt301.2 bt305.1 bt305.2 bt309.1 bt309.2.1 bt309.2.2 bt315.1 true))))))))))))) = some r := h
 clear h
 replace H := Option.bind_eq_some_iff.mp H
 obtain ⟨t298, A30, H⟩ := H
 have A3 := Aside0.mk A30
 clear A30
 by_cases c4 : t298 = true
 · subst c4
   rw [if_pos rfl] at H
   as_aux_lemma =>
    obtain rfl := Option.some.inj H
    go_enter Try.func4, Try.ntmps4
    go_wp2_with (first | (go_at_call 6; (with_reducible refine (laws_big.calls _ _ l0 _ _ l1 true _ ?side1 ?side2 ?side3 ?side4 A3.out).mono ?_); (case side1 => repeat (first | exact HR0.out | (with_reducible refine Kd.C_alloc ?_ _) | (with_reducible refine Kd.C_drewN ?_ _) | (with_reducible refine Kd.C_drew ?_))); (case side2 => exact HC0.out); (case side3 => repeat (first | exact HR1.out | (with_reducible refine Kd.C_alloc ?_ _) | (with_reducible refine Kd.C_drewN ?_ _) | (with_reducible refine Kd.C_drew ?_))); (case side4 => exact HC1.out); rintro e w' ⟨rfl, ⟨nd, rfl⟩⟩; (try first | exact ⟨rfl, _, World.drewN_drewN _ _ _⟩ | exact ⟨rfl, _, Eq.trans (World.drewN_drewN _ _ _) (congrArg (World.drewN _) (Nat.add_assoc _ _ _))⟩)))
    repeat (go_quiet (fail); try go_wp2_with (first | (go_at_call 6; (with_reducible refine (laws_big.calls _ _ l0 _ _ l1 true _ ?side1 ?side2 ?side3 ?side4 A3.out).mono ?_); (case side1 => repeat (first | exact HR0.out | (with_reducible refine Kd.C_alloc ?_ _) | (with_reducible refine Kd.C_drewN ?_ _) | (with_reducible refine Kd.C_drew ?_))); (case side2 => exact HC0.out); (case side3 => repeat (first | exact HR1.out | (with_reducible refine Kd.C_alloc ?_ _) | (with_reducible refine Kd.C_drewN ?_ _) | (with_reducible refine Kd.C_drew ?_))); (case side4 => exact HC1.out); rintro e w' ⟨rfl, ⟨nd, rfl⟩⟩; (try first | exact ⟨rfl, _, World.drewN_drewN _ _ _⟩ | exact ⟨rfl, _, Eq.trans (World.drewN_drewN _ _ _) (congrArg (World.drewN _) (Nat.add_assoc _ _ _))⟩))))
    go_ret
    exact ⟨by first | rfl | (simp [errW_none, errW_some] <;> rfl) | (simp [*, errW_none, errW_some] <;> rfl), by repeat (first | (with_reducible first | exact HB.out | apply below_alloc | apply pw_below_drewN | apply below_drew1) | exact HB.out)⟩
 replace c4 := Bool.eq_false_iff.mpr c4
 subst c4
 rw [if_neg (show ¬ (false = true) by decide)] at H
 replace H := Option.bind_eq_some_iff.mp H
 obtain ⟨⟨t299, t300⟩, A50, H⟩ := H
 dsimp only at H
 have A5 := Aside0.mk A50
 clear A50
 replace H := Option.bind_eq_some_iff.mp H
 obtain ⟨⟨t301, t302⟩, A60, H⟩ := H
 dsimp only at H
 have A6 := Aside0.mk A60
 clear A60
 replace H := Option.bind_eq_some_iff.mp H
 obtain ⟨⟨t303, t304⟩, A70, H⟩ := H
 dsimp only at H
 have A7 := Aside0.mk A70
 clear A70
 replace H := Option.bind_eq_some_iff.mp H
 obtain ⟨⟨t305, t306⟩, A80, H⟩ := H
 dsimp only at H
 have A8 := Aside0.mk A80
 clear A80
 replace H := Option.bind_eq_some_iff.mp H
 obtain ⟨⟨t307, t308⟩, A90, H⟩ := H
 dsimp only at H
 have A9 := Aside0.mk A90
 clear A90
 replace H := Option.bind_eq_some_iff.mp H
 obtain ⟨⟨t309, t310, t311⟩, A100, H⟩ := H
 dsimp only at H
 have A10 := Aside0.mk A100
 clear A100
 replace H := Option.bind_eq_some_iff.mp H
 obtain ⟨⟨t312, t313, t314⟩, A110, H⟩ := H
 dsimp only at H
 have A11 := Aside0.mk A110
 clear A110
 replace H := Option.bind_eq_some_iff.mp H
 obtain ⟨⟨t315, t316⟩, A120, H⟩ := H
 dsimp only at H
 have A12 := Aside0.mk A120
 clear A120
 have HC13 := Aside0.mk H
 clear H
 go_enter Try.func4, Try.ntmps4
 go_upto_region 11 with (first | (go_at_call 6; (with_reducible refine (laws_big.calls _ _ l0 _ _ l1 false _ ?side1 ?side2 ?side3 ?side4 A3.out).mono ?_); (case side1 => repeat (first | exact HR0.out | (with_reducible refine Kd.C_alloc ?_ _) | (with_reducible refine Kd.C_drewN ?_ _) | (with_reducible refine Kd.C_drew ?_))); (case side2 => exact HC0.out); (case side3 => repeat (first | exact HR1.out | (with_reducible refine Kd.C_alloc ?_ _) | (with_reducible refine Kd.C_drewN ?_ _) | (with_reducible refine Kd.C_drew ?_))); (case side4 => exact HC1.out); rintro e w' ⟨rfl, ⟨nd, rfl⟩⟩; (try first | exact ⟨rfl, _, World.drewN_drewN _ _ _⟩ | exact ⟨rfl, _, Eq.trans (World.drewN_drewN _ _ _) (congrArg (World.drewN _) (Nat.add_assoc _ _ _))⟩)) | (go_at_call 34; (with_reducible refine (spec_DrawBalancedHouse.calls k _ _ l0 t299 t300 _ ?side1 ?side2 A5.out).mono ?_); (case side1 => repeat (first | exact HR0.out | (with_reducible refine Kd.C_alloc ?_ _) | (with_reducible refine Kd.C_drewN ?_ _) | (with_reducible refine Kd.C_drew ?_))); (case side2 => exact HC0.out); rintro e w14 ⟨rfl, hb⟩; have n0_ := Aside0.mk (below_step z6_2_ hb); clear HB; have HB := n0_; clear n0_; (try clear hb); (try clear hb2); (try clear hk); (try clear hi)) | (go_at_call 35; (with_reducible refine (impl_BalancedHouse.calls k t299 t300 t301 t302 _ A6.out).mono ?_); rintro e w' ⟨rfl, ⟨nd, rfl⟩⟩; (try first | exact ⟨rfl, _, World.drewN_drewN _ _ _⟩ | exact ⟨rfl, _, Eq.trans (World.drewN_drewN _ _ _) (congrArg (World.drewN _) (Nat.add_assoc _ _ _))⟩)) | (go_at_call 36; (with_reducible refine (spec_BalancedHouse.calls k t299 t300 t303 t304 _ A7.out).mono ?_); rintro e w' ⟨rfl, ⟨nd, rfl⟩⟩; (try first | exact ⟨rfl, _, World.drewN_drewN _ _ _⟩ | exact ⟨rfl, _, Eq.trans (World.drewN_drewN _ _ _) (congrArg (World.drewN _) (Nat.add_assoc _ _ _))⟩)) | (go_at_call 37; (with_reducible refine (impl_DoubleSum.calls k t299 t300 t305 t306 _ A8.out).mono ?_); rintro e w' ⟨rfl, ⟨nd, rfl⟩⟩; (try first | exact ⟨rfl, _, World.drewN_drewN _ _ _⟩ | exact ⟨rfl, _, Eq.trans (World.drewN_drewN _ _ _) (congrArg (World.drewN _) (Nat.add_assoc _ _ _))⟩)) | (go_at_call 38; (with_reducible refine (spec_DoubleSum.calls k t299 t300 t307 t308 _ A9.out).mono ?_); rintro e w' ⟨rfl, ⟨nd, rfl⟩⟩; (try first | exact ⟨rfl, _, World.drewN_drewN _ _ _⟩ | exact ⟨rfl, _, Eq.trans (World.drewN_drewN _ _ _) (congrArg (World.drewN _) (Nat.add_assoc _ _ _))⟩)) | (go_at_call 39; (with_reducible refine (impl_MiddleHouse.calls t299 t300 t309 t310 t311 _ A10.out).mono ?_); rintro e w' ⟨rfl, ⟨nd, rfl⟩⟩; (try first | exact ⟨rfl, _, World.drewN_drewN _ _ _⟩ | exact ⟨rfl, _, Eq.trans (World.drewN_drewN _ _ _) (congrArg (World.drewN _) (Nat.add_assoc _ _ _))⟩)) | (go_at_call 40; (with_reducible refine (spec_MiddleHouse.calls t299 t300 t312 t313 t314 _ A11.out).mono ?_); rintro e w' ⟨rfl, ⟨nd, rfl⟩⟩; (try first | exact ⟨rfl, _, World.drewN_drewN _ _ _⟩ | exact ⟨rfl, _, Eq.trans (World.drewN_drewN _ _ _) (congrArg (World.drewN _) (Nat.add_assoc _ _ _))⟩)) | (go_at_call 19; (with_reducible refine (impl_SumOfHouses.calls t299 t300 1 t315 t316 _ A12.out).mono ?_); rintro e w' ⟨rfl, ⟨nd, rfl⟩⟩; (try first | exact ⟨rfl, _, World.drewN_drewN _ _ _⟩ | exact ⟨rfl, _, Eq.trans (World.drewN_drewN _ _ _) (congrArg (World.drewN _) (Nat.add_assoc _ _ _))⟩)))
 repeat (go_quiet (first | (go_at_call 19; (with_reducible refine (impl_SumOfHouses.calls t299 t300 1 t315 t316 _ A12.out).mono ?_); rintro e w' ⟨rfl, ⟨nd, rfl⟩⟩; (try first | exact ⟨rfl, _, World.drewN_drewN _ _ _⟩ | exact ⟨rfl, _, Eq.trans (World.drewN_drewN _ _ _) (congrArg (World.drewN _) (Nat.add_assoc _ _ _))⟩))); go_upto_region 11 with (first | (go_at_call 6; (with_reducible refine (laws_big.calls _ _ l0 _ _ l1 false _ ?side1 ?side2 ?side3 ?side4 A3.out).mono ?_); (case side1 => repeat (first | exact HR0.out | (with_reducible refine Kd.C_alloc ?_ _) | (with_reducible refine Kd.C_drewN ?_ _) | (with_reducible refine Kd.C_drew ?_))); (case side2 => exact HC0.out); (case side3 => repeat (first | exact HR1.out | (with_reducible refine Kd.C_alloc ?_ _) | (with_reducible refine Kd.C_drewN ?_ _) | (with_reducible refine Kd.C_drew ?_))); (case side4 => exact HC1.out); rintro e w' ⟨rfl, ⟨nd, rfl⟩⟩; (try first | exact ⟨rfl, _, World.drewN_drewN _ _ _⟩ | exact ⟨rfl, _, Eq.trans (World.drewN_drewN _ _ _) (congrArg (World.drewN _) (Nat.add_assoc _ _ _))⟩)) | (go_at_call 34; (with_reducible refine (spec_DrawBalancedHouse.calls k _ _ l0 t299 t300 _ ?side1 ?side2 A5.out).mono ?_); (case side1 => repeat (first | exact HR0.out | (with_reducible refine Kd.C_alloc ?_ _) | (with_reducible refine Kd.C_drewN ?_ _) | (with_reducible refine Kd.C_drew ?_))); (case side2 => exact HC0.out); rintro e w14 ⟨rfl, hb⟩; have n0_ := Aside0.mk (below_step z6_2_ hb); clear HB; have HB := n0_; clear n0_; (try clear hb); (try clear hb2); (try clear hk); (try clear hi)) | (go_at_call 35; (with_reducible refine (impl_BalancedHouse.calls k t299 t300 t301 t302 _ A6.out).mono ?_); rintro e w' ⟨rfl, ⟨nd, rfl⟩⟩; (try first | exact ⟨rfl, _, World.drewN_drewN _ _ _⟩ | exact ⟨rfl, _, Eq.trans (World.drewN_drewN _ _ _) (congrArg (World.drewN _) (Nat.add_assoc _ _ _))⟩)) | (go_at_call 36; (with_reducible refine (spec_BalancedHouse.calls k t299 t300 t303 t304 _ A7.out).mono ?_); rintro e w' ⟨rfl, ⟨nd, rfl⟩⟩; (try first | exact ⟨rfl, _, World.drewN_drewN _ _ _⟩ | exact ⟨rfl, _, Eq.trans (World.drewN_drewN _ _ _) (congrArg (World.drewN _) (Nat.add_assoc _ _ _))⟩)) | (go_at_call 37; (with_reducible refine (impl_DoubleSum.calls k t299 t300 t305 t306 _ A8.out).mono ?_); rintro e w' ⟨rfl, ⟨nd, rfl⟩⟩; (try first | exact ⟨rfl, _, World.drewN_drewN _ _ _⟩ | exact ⟨rfl, _, Eq.trans (World.drewN_drewN _ _ _) (congrArg (World.drewN _) (Nat.add_assoc _ _ _))⟩)) | (go_at_call 38; (with_reducible refine (spec_DoubleSum.calls k t299 t300 t307 t308 _ A9.out).mono ?_); rintro e w' ⟨rfl, ⟨nd, rfl⟩⟩; (try first | exact ⟨rfl, _, World.drewN_drewN _ _ _⟩ | exact ⟨rfl, _, Eq.trans (World.drewN_drewN _ _ _) (congrArg (World.drewN _) (Nat.add_assoc _ _ _))⟩)) | (go_at_call 39; (with_reducible refine (impl_MiddleHouse.calls t299 t300 t309 t310 t311 _ A10.out).mono ?_); rintro e w' ⟨rfl, ⟨nd, rfl⟩⟩; (try first | exact ⟨rfl, _, World.drewN_drewN _ _ _⟩ | exact ⟨rfl, _, Eq.trans (World.drewN_drewN _ _ _) (congrArg (World.drewN _) (Nat.add_assoc _ _ _))⟩)) | (go_at_call 40; (with_reducible refine (spec_MiddleHouse.calls t299 t300 t312 t313 t314 _ A11.out).mono ?_); rintro e w' ⟨rfl, ⟨nd, rfl⟩⟩; (try first | exact ⟨rfl, _, World.drewN_drewN _ _ _⟩ | exact ⟨rfl, _, Eq.trans (World.drewN_drewN _ _ _) (congrArg (World.drewN _) (Nat.add_assoc _ _ _))⟩)) | (go_at_call 19; (with_reducible refine (impl_SumOfHouses.calls t299 t300 1 t315 t316 _ A12.out).mono ?_); rintro e w' ⟨rfl, ⟨nd, rfl⟩⟩; (try first | exact ⟨rfl, _, World.drewN_drewN _ _ _⟩ | exact ⟨rfl, _, Eq.trans (World.drewN_drewN _ _ _) (congrArg (World.drewN _) (Nat.add_assoc _ _ _))⟩))))
 (try simp only [Act.put, List.setIfInBounds_toArray, List.set_cons_zero, List.set_cons_succ])
 go_cut [181] from 78 to 181 (fun v181 wc => ∃ (kq : Nat) (x181_12 : Bool), v181 = .bool x181_12 ∧ Aside0 (laws_FnHousesBalance.j0 kq l1 t299 t300 t301 t302 t305 t306 t309 t310 t311 t315 x181_12 = some r) ∧ Aside0 (kq ≤ k) ∧ Aside0 (Below w.heap.size w wc))
 case first =>
  as_aux_lemma =>
   have H := HC13.out
   clear HC13
   by_cases c15 : (t302 != t304) = true
   · exact laws_FnHousesBalance.j0_dead ((if_pos c15).symm.trans H) hr_
   rw [if_neg c15] at H
   have c15b0 : (t302 != t304) = false := by simpa using c15
   (try (have c15b1 : decide (t302 = t304) = true := by simpa using c15))
   (try (have c15b2 : (t302 == t304) = true := by simpa using c15))
   clear c15
   (first | rw [c15b0] | (simp only [i64_w, i32_w]; rw [c15b0]) | skip)
   by_cases c16 : t301 = t303
   rotate_left
   · exact laws_FnHousesBalance.j0_dead ((if_neg c16).symm.trans H) hr_
   rw [if_pos c16] at H
   have c16b0 : (t301 == t303) = true := beq_iff_eq.mpr c16
   have c16b1 : (t301 != t303) = false := bne_eq_false_iff_eq.mpr c16
   clear c16
   by_cases c17 : (t306 != t308) = true
   · exact laws_FnHousesBalance.j0_dead ((if_pos c17).symm.trans H) hr_
   rw [if_neg c17] at H
   have c17b0 : (t306 != t308) = false := by simpa using c17
   (try (have c17b1 : decide (t306 = t308) = true := by simpa using c17))
   (try (have c17b2 : (t306 == t308) = true := by simpa using c17))
   clear c17
   by_cases c18 : t305 = t307
   rotate_left
   · exact laws_FnHousesBalance.j0_dead ((if_neg c18).symm.trans H) hr_
   rw [if_pos c18] at H
   have c18b0 : (t305 == t307) = true := beq_iff_eq.mpr c18
   have c18b1 : (t305 != t307) = false := bne_eq_false_iff_eq.mpr c18
   clear c18
   by_cases c19 : (t311 != t314) = true
   · exact laws_FnHousesBalance.j0_dead ((if_pos c19).symm.trans H) hr_
   rw [if_neg c19] at H
   have c19b0 : (t311 != t314) = false := by simpa using c19
   (try (have c19b1 : decide (t311 = t314) = true := by simpa using c19))
   (try (have c19b2 : (t311 == t314) = true := by simpa using c19))
   clear c19
   by_cases c20 : t309 = t312
   rotate_left
   · exact laws_FnHousesBalance.j0_dead ((if_neg c20).symm.trans H) hr_
   rw [if_pos c20] at H
   have c20b0 : (t309 == t312) = true := beq_iff_eq.mpr c20
   have c20b1 : (t309 != t312) = false := bne_eq_false_iff_eq.mpr c20
   clear c20
   by_cases c21 : t310 = t313
   rotate_left
   · exact laws_FnHousesBalance.j0_dead ((if_neg c21).symm.trans H) hr_
   rw [if_pos c21] at H
   have c21b0 : (t310 == t313) = true := beq_iff_eq.mpr c21
   have c21b1 : (t310 != t313) = false := bne_eq_false_iff_eq.mpr c21
   clear c21
   by_cases c22 : (t316 != t311) = true
   · exact laws_FnHousesBalance.j0_dead ((if_pos c22).symm.trans H) hr_
   rw [if_neg c22] at H
   have c22b0 : (t316 != t311) = false := by simpa using c22
   (try (have c22b1 : decide (t316 = t311) = true := by simpa using c22))
   (try (have c22b2 : (t316 == t311) = true := by simpa using c22))
   clear c22
   by_cases c23 : t302 = true
   · subst c23
     rw [if_pos rfl] at H
     by_cases c24 : t311 = true
     · subst c24
       rw [if_pos rfl] at H
       by_cases c25 : t306 = true
       · subst c25
         rw [if_pos rfl] at H
         as_aux_lemma =>
          have H' := Aside0.mk H
          clear H
          go_wp2
          repeat (go_quiet (fail); try go_wp2)
          go_meet
          case rel => exact ⟨_, (!true), z6_7_, H', ⟨by first | omega | exact Nat.le_refl _⟩, ⟨by repeat (first | (with_reducible first | exact HB.out | apply below_alloc | apply pw_below_drewN | apply below_drew1) | exact HB.out)⟩⟩
       replace c25 := Bool.eq_false_iff.mpr c25
       subst c25
       rw [if_neg (show ¬ (false = true) by decide)] at H
       as_aux_lemma =>
        have H' := Aside0.mk H
        clear H
        go_wp2
        repeat (go_quiet (fail); try go_wp2)
        go_meet
        case rel => exact ⟨_, (false), z6_7_, H', ⟨by first | omega | exact Nat.le_refl _⟩, ⟨by repeat (first | (with_reducible first | exact HB.out | apply below_alloc | apply pw_below_drewN | apply below_drew1) | exact HB.out)⟩⟩
     replace c24 := Bool.eq_false_iff.mpr c24
     subst c24
     rw [if_neg (show ¬ (false = true) by decide)] at H
     as_aux_lemma =>
      have H' := Aside0.mk H
      clear H
      go_wp2
      repeat (go_quiet (fail); try go_wp2)
      go_meet
      case rel => exact ⟨_, (true), z6_7_, H', ⟨by first | omega | exact Nat.le_refl _⟩, ⟨by repeat (first | (with_reducible first | exact HB.out | apply below_alloc | apply pw_below_drewN | apply below_drew1) | exact HB.out)⟩⟩
   replace c23 := Bool.eq_false_iff.mpr c23
   subst c23
   rw [if_neg (show ¬ (false = true) by decide)] at H
   by_cases c26 : t306 = true
   · subst c26
     rw [if_pos rfl] at H
     as_aux_lemma =>
      have H' := Aside0.mk H
      clear H
      go_wp2
      repeat (go_quiet (fail); try go_wp2)
      go_meet
      case rel => exact ⟨_, (!t311), z6_7_, H', ⟨by first | omega | exact Nat.le_refl _⟩, ⟨by repeat (first | (with_reducible first | exact HB.out | apply below_alloc | apply pw_below_drewN | apply below_drew1) | exact HB.out)⟩⟩
   replace c26 := Bool.eq_false_iff.mpr c26
   subst c26
   rw [if_neg (show ¬ (false = true) by decide)] at H
   as_aux_lemma =>
    have H' := Aside0.mk H
    clear H
    go_wp2
    repeat (go_quiet (fail); try go_wp2)
    go_meet
    case rel => exact ⟨_, (false), z6_7_, H', ⟨by first | omega | exact Nat.le_refl _⟩, ⟨by repeat (first | (with_reducible first | exact HB.out | apply below_alloc | apply pw_below_drewN | apply below_drew1) | exact HB.out)⟩⟩
 case rest =>
  as_aux_lemma =>
   clear HC13
   (try clear c1);(try clear c2);(try clear p2);(try clear c4);(try clear c15);(try clear c15b0);(try clear c15b1);(try clear c15b2);(try clear c16);(try clear c16b0);(try clear c16b1);(try clear c17);(try clear c17b0);(try clear c17b1);(try clear c17b2);(try clear c18);(try clear c18b0);(try clear c18b1);(try clear c19);(try clear c19b0);(try clear c19b1);(try clear c19b2);(try clear c20);(try clear c20b0);(try clear c20b1);(try clear c21);(try clear c21b0);(try clear c21b1);(try clear c22);(try clear c22b0);(try clear c22b1);(try clear c22b2);(try clear c23);(try clear c24);(try clear c25);(try clear c26)
   obtain ⟨kq, x181_12, rfl, HA, HJ12, HB⟩ := hcut
   cases kq with
   | zero => exact absurd HA.out (by simp [laws_FnHousesBalance.j0])
   | succ kj12 =>
    have H := HA.out
    clear HA
    simp only [laws_FnHousesBalance.j0] at H
    by_cases c27 : x181_12 = true
    · subst c27
      rw [if_pos rfl] at H
      as_aux_lemma =>
       exact Bool.noConfusion ((Option.some.inj H).trans hr_.out)
    replace c27 := Bool.eq_false_iff.mpr c27
    subst c27
    rw [if_neg (show ¬ (false = true) by decide)] at H
    have HC28 := Aside0.mk H
    clear H
    go_upto_if 182 with (fail)
    repeat (go_quiet (fail); go_upto_if 182 with (fail))
    go_cut [] from 182 to 226 (fun wc => ∃ (kq : Nat), Aside0 (laws_FnHousesBalance.j1 kq l1 t299 t300 t305 t306 t309 t310 t311 t315 = some r) ∧ Aside0 (kq ≤ kj12) ∧ Aside0 (Below w.heap.size w wc))
    case first =>
     as_aux_lemma =>
      have H := HC28.out
      clear HC28
      by_cases c29 : t302 = true
      · subst c29
        rw [if_pos rfl] at H
        replace H := Option.bind_eq_some_iff.mp H
        obtain ⟨⟨t317, t318⟩, A300, H⟩ := H
        dsimp only at H
        have A30 := Aside0.mk A300
        clear A300
        replace H := Option.bind_eq_some_iff.mp H
        obtain ⟨⟨t319, t320⟩, A310, H⟩ := H
        dsimp only at H
        have A31 := Aside0.mk A310
        clear A310
        by_cases c32 : t301 < t299
        · exact dead_ (if_pos c32) H hr_
        rw [if_neg c32] at H
        have c32b0 : decide (t301 < t299) = false := decide_eq_false c32
        clear c32
        (first | rw [c32b0] | (simp only [i64_w, i32_w]; rw [c32b0]) | skip)
        by_cases c33 : t301 > t300
        · exact dead_ (if_pos c33) H hr_
        rw [if_neg c33] at H
        have c33b0 : decide (t300 < t301) = false := decide_eq_false c33
        clear c33
        by_cases c34 : t318 = true
        · subst c34
          rw [if_pos rfl] at H
          by_cases c35 : t320 = true
          · subst c35
            rw [if_pos rfl] at H
            by_cases c36 : t317 = t319
            rotate_left
            · exact dead_ (if_neg c36) H hr_
            rw [if_pos c36] at H
            have c36b0 : (t317 == t319) = true := beq_iff_eq.mpr c36
            have c36b1 : (t317 != t319) = false := bne_eq_false_iff_eq.mpr c36
            clear c36
            by_cases c37 : (wrap64 ((wrap64 (t317 + t319)) + t301)) = t315
            rotate_left
            · exact dead_ (if_neg c37) H hr_
            rw [if_pos c37] at H
            have c37b0 : ((wrap64 ((wrap64 (t317 + t319)) + t301)) == t315) = true := beq_iff_eq.mpr c37
            have c37b1 : ((wrap64 ((wrap64 (t317 + t319)) + t301)) != t315) = false := bne_eq_false_iff_eq.mpr c37
            clear c37
            as_aux_lemma =>
             have H' := Aside0.mk H
             clear H
             go_wp2_with (first | (go_at_call 41; (with_reducible refine (impl_SumLeft.calls kj12 t299 t300 t301 t317 true _ A30.out).mono ?_); rintro e w' ⟨rfl, ⟨nd, rfl⟩⟩; (try first | exact ⟨rfl, _, World.drewN_drewN _ _ _⟩ | exact ⟨rfl, _, Eq.trans (World.drewN_drewN _ _ _) (congrArg (World.drewN _) (Nat.add_assoc _ _ _))⟩)) | (go_at_call 42; (with_reducible refine (impl_SumRight.calls kj12 t299 t300 t301 t319 true _ A31.out).mono ?_); rintro e w' ⟨rfl, ⟨nd, rfl⟩⟩; (try first | exact ⟨rfl, _, World.drewN_drewN _ _ _⟩ | exact ⟨rfl, _, Eq.trans (World.drewN_drewN _ _ _) (congrArg (World.drewN _) (Nat.add_assoc _ _ _))⟩)))
             repeat (go_quiet (fail); try go_wp2_with (first | (go_at_call 41; (with_reducible refine (impl_SumLeft.calls kj12 t299 t300 t301 t317 true _ A30.out).mono ?_); rintro e w' ⟨rfl, ⟨nd, rfl⟩⟩; (try first | exact ⟨rfl, _, World.drewN_drewN _ _ _⟩ | exact ⟨rfl, _, Eq.trans (World.drewN_drewN _ _ _) (congrArg (World.drewN _) (Nat.add_assoc _ _ _))⟩)) | (go_at_call 42; (with_reducible refine (impl_SumRight.calls kj12 t299 t300 t301 t319 true _ A31.out).mono ?_); rintro e w' ⟨rfl, ⟨nd, rfl⟩⟩; (try first | exact ⟨rfl, _, World.drewN_drewN _ _ _⟩ | exact ⟨rfl, _, Eq.trans (World.drewN_drewN _ _ _) (congrArg (World.drewN _) (Nat.add_assoc _ _ _))⟩))))
             go_meet
             case rel => exact ⟨_, H', ⟨by have := HJ12.out; first | omega | exact Nat.le_refl _⟩, ⟨by repeat (first | (with_reducible first | exact HB.out | apply below_alloc | apply pw_below_drewN | apply below_drew1) | exact HB.out)⟩⟩
          replace c35 := Bool.eq_false_iff.mpr c35
          subst c35
          rw [if_neg (show ¬ (false = true) by decide)] at H
          as_aux_lemma =>
           exact Bool.noConfusion ((Option.some.inj H).trans hr_.out)
        replace c34 := Bool.eq_false_iff.mpr c34
        subst c34
        rw [if_neg (show ¬ (false = true) by decide)] at H
        as_aux_lemma =>
         exact Bool.noConfusion ((Option.some.inj H).trans hr_.out)
      replace c29 := Bool.eq_false_iff.mpr c29
      subst c29
      rw [if_neg (show ¬ (false = true) by decide)] at H
      as_aux_lemma =>
       have H' := Aside0.mk H
       clear H
       go_wp2
       repeat (go_quiet (fail); try go_wp2)
       go_meet
       case rel => exact ⟨_, H', ⟨by have := HJ12.out; first | omega | exact Nat.le_refl _⟩, ⟨by repeat (first | (with_reducible first | exact HB.out | apply below_alloc | apply pw_below_drewN | apply below_drew1) | exact HB.out)⟩⟩
    case rest =>
     as_aux_lemma =>
      clear HC28
      (try clear c1);(try clear c2);(try clear p2);(try clear c3);(try clear c4);(try clear p6);(try clear c15);(try clear c15b0);(try clear c15b1);(try clear c15b2);(try clear c16);(try clear c16b0);(try clear c16b1);(try clear c17);(try clear c17b0);(try clear c17b1);(try clear c17b2);(try clear c18);(try clear c18b0);(try clear c18b1);(try clear c19);(try clear c19b0);(try clear c19b1);(try clear c19b2);(try clear c20);(try clear c20b0);(try clear c20b1);(try clear c21);(try clear c21b0);(try clear c21b1);(try clear c22);(try clear c22b0);(try clear c22b1);(try clear c22b2);(try clear c23);(try clear c24);(try clear c25);(try clear c26);(try clear c27);(try clear c29);(try clear c32);(try clear c32b0);(try clear c33);(try clear c33b0);(try clear c34);(try clear c35);(try clear c36);(try clear c36b0);(try clear c36b1);(try clear c37);(try clear c37b0);(try clear c37b1);(try clear p2)
      obtain ⟨kq, HA, HJ27, HB⟩ := hcut
      cases kq with
      | zero => exact absurd HA.out (by simp [laws_FnHousesBalance.j1])
      | succ kj27 =>
       have H := HA.out
       clear HA
       simp only [laws_FnHousesBalance.j1] at H
       have HC38 := Aside0.mk H
       clear H
       go_upto_if 227 with (fail)
       repeat (go_quiet (fail); go_upto_if 227 with (fail))
       go_cut [] from 227 to 251 (fun wc => ∃ (kq : Nat), Aside0 (laws_FnHousesBalance.j2 kq l1 t299 t300 t309 t310 t311 t315 = some r) ∧ Aside0 (kq ≤ kj27) ∧ Aside0 (Below w.heap.size w wc))
       case first =>
        as_aux_lemma =>
         have H := HC38.out
         clear HC38
         by_cases c39 : t306 = true
         · subst c39
           rw [if_pos rfl] at H
           replace H := Option.bind_eq_some_iff.mp H
           obtain ⟨⟨t321, t322⟩, A400, H⟩ := H
           dsimp only at H
           have A40 := Aside0.mk A400
           clear A400
           by_cases c41 : t322 = true
           · subst c41
             rw [if_pos rfl] at H
             by_cases c42 : (wrap64 (2 * t321)) = t315
             rotate_left
             · exact dead_ (if_neg c42) H hr_
             rw [if_pos c42] at H
             have c42b0 : ((wrap64 (2 * t321)) == t315) = true := beq_iff_eq.mpr c42
             have c42b1 : ((wrap64 (2 * t321)) != t315) = false := bne_eq_false_iff_eq.mpr c42
             clear c42
             (first | rw [c42b0] | (simp only [i64_w, i32_w]; rw [c42b0]) | skip)
             by_cases c43 : t305 < t299
             · exact dead_ (if_pos c43) H hr_
             rw [if_neg c43] at H
             have c43b0 : decide (t305 < t299) = false := decide_eq_false c43
             clear c43
             by_cases c44 : t305 ≥ t300
             · exact dead_ (if_pos c44) H hr_
             rw [if_neg c44] at H
             have c44b0 : decide (t300 ≤ t305) = false := decide_eq_false c44
             clear c44
             as_aux_lemma =>
              have H' := Aside0.mk H
              clear H
              go_wp2_with (first | (go_at_call 19; (with_reducible refine (impl_SumOfHouses.calls t299 t305 1 t321 true _ A40.out).mono ?_); rintro e w' ⟨rfl, ⟨nd, rfl⟩⟩; (try first | exact ⟨rfl, _, World.drewN_drewN _ _ _⟩ | exact ⟨rfl, _, Eq.trans (World.drewN_drewN _ _ _) (congrArg (World.drewN _) (Nat.add_assoc _ _ _))⟩)))
              repeat (go_quiet (first | (go_at_call 19; (with_reducible refine (impl_SumOfHouses.calls t299 t305 1 t321 true _ A40.out).mono ?_); rintro e w' ⟨rfl, ⟨nd, rfl⟩⟩; (try first | exact ⟨rfl, _, World.drewN_drewN _ _ _⟩ | exact ⟨rfl, _, Eq.trans (World.drewN_drewN _ _ _) (congrArg (World.drewN _) (Nat.add_assoc _ _ _))⟩))); try go_wp2_with (first | (go_at_call 19; (with_reducible refine (impl_SumOfHouses.calls t299 t305 1 t321 true _ A40.out).mono ?_); rintro e w' ⟨rfl, ⟨nd, rfl⟩⟩; (try first | exact ⟨rfl, _, World.drewN_drewN _ _ _⟩ | exact ⟨rfl, _, Eq.trans (World.drewN_drewN _ _ _) (congrArg (World.drewN _) (Nat.add_assoc _ _ _))⟩))))
              go_meet
              case rel => exact ⟨_, H', ⟨by have := HJ12.out; have := HJ27.out; first | omega | exact Nat.le_refl _⟩, ⟨by repeat (first | (with_reducible first | exact HB.out | apply below_alloc | apply pw_below_drewN | apply below_drew1) | exact HB.out)⟩⟩
           replace c41 := Bool.eq_false_iff.mpr c41
           subst c41
           rw [if_neg (show ¬ (false = true) by decide)] at H
           as_aux_lemma =>
            exact Bool.noConfusion ((Option.some.inj H).trans hr_.out)
         replace c39 := Bool.eq_false_iff.mpr c39
         subst c39
         rw [if_neg (show ¬ (false = true) by decide)] at H
         as_aux_lemma =>
          have H' := Aside0.mk H
          clear H
          go_wp2
          repeat (go_quiet (fail); try go_wp2)
          go_meet
          case rel => exact ⟨_, H', ⟨by have := HJ12.out; have := HJ27.out; first | omega | exact Nat.le_refl _⟩, ⟨by repeat (first | (with_reducible first | exact HB.out | apply below_alloc | apply pw_below_drewN | apply below_drew1) | exact HB.out)⟩⟩
       case rest =>
        as_aux_lemma =>
         clear HC38
         (try clear c1);(try clear c2);(try clear p2);(try clear c3);(try clear c4);(try clear p6);(try clear c15);(try clear c15b0);(try clear c15b1);(try clear c15b2);(try clear c16);(try clear c16b0);(try clear c16b1);(try clear c17);(try clear c17b0);(try clear c17b1);(try clear c17b2);(try clear c18);(try clear c18b0);(try clear c18b1);(try clear c19);(try clear c19b0);(try clear c19b1);(try clear c19b2);(try clear c20);(try clear c20b0);(try clear c20b1);(try clear c21);(try clear c21b0);(try clear c21b1);(try clear c22);(try clear c22b0);(try clear c22b1);(try clear c22b2);(try clear c23);(try clear c24);(try clear c25);(try clear c26);(try clear c27);(try clear c29);(try clear c32);(try clear c32b0);(try clear c33);(try clear c33b0);(try clear c34);(try clear c35);(try clear c36);(try clear c36b0);(try clear c36b1);(try clear c37);(try clear c37b0);(try clear c37b1);(try clear c39);(try clear c41);(try clear c42);(try clear c42b0);(try clear c42b1);(try clear c43);(try clear c43b0);(try clear c44);(try clear c44b0);(try clear p2);(try clear p6)
         obtain ⟨kq, HA, HJ37, HB⟩ := hcut
         cases kq with
         | zero => exact absurd HA.out (by simp [laws_FnHousesBalance.j2])
         | succ kj37 =>
          have H := HA.out
          clear HA
          simp only [laws_FnHousesBalance.j2] at H
          have HC45 := Aside0.mk H
          clear H
          go_upto_region 22 with (fail)
          repeat (go_quiet (fail); go_upto_region 22 with (fail))
          go_cut [292] from 252 to 292 (fun v292 wc => ∃ (kq : Nat) (x292_44 : Bool), v292 = .bool x292_44 ∧ Aside0 (laws_FnHousesBalance.j3 kq l1 x292_44 = some r) ∧ Aside0 (kq ≤ kj37) ∧ Aside0 (Below w.heap.size w wc))
          case first =>
           as_aux_lemma =>
            have H := HC45.out
            clear HC45
            by_cases c46 : t311 = true
            · subst c46
              rw [if_pos rfl] at H
              by_cases c47 : t310 = 1
              · rw [if_pos c47] at H
                have c47b0 : (t310 == 1) = true := beq_iff_eq.mpr c47
                have c47b1 : (t310 != 1) = false := bne_eq_false_iff_eq.mpr c47
                clear c47
                (first | rw [c47b0] | (simp only [i64_w, i32_w]; rw [c47b0]) | skip)
                by_cases c48 : t310 = 2
                · rw [if_pos c48] at H
                  have c48b0 : (t310 == 2) = true := beq_iff_eq.mpr c48
                  have c48b1 : (t310 != 2) = false := bne_eq_false_iff_eq.mpr c48
                  clear c48
                  by_cases c49 : (Int.tmod t309 2) = 0
                  · exact laws_FnHousesBalance.j3_dead ((if_pos c49).symm.trans H) hr_
                  rw [if_neg c49] at H
                  have c49b0 : ((Int.tmod t309 2) == 0) = false := beq_eq_false_iff_ne.mpr c49
                  have c49b1 : ((Int.tmod t309 2) != 0) = true := bne_iff_ne.mpr c49
                  by_cases c50 : (wrap64 (2 * t309)) = (wrap64 ((wrap64 (t299 + t300)) * t310))
                  rotate_left
                  · exact laws_FnHousesBalance.j3_dead ((if_neg c50).symm.trans H) hr_
                  rw [if_pos c50] at H
                  have c50b0 : ((wrap64 (2 * t309)) == (wrap64 ((wrap64 (t299 + t300)) * t310))) = true := beq_iff_eq.mpr c50
                  have c50b1 : ((wrap64 (2 * t309)) != (wrap64 ((wrap64 (t299 + t300)) * t310))) = false := bne_eq_false_iff_eq.mpr c50
                  clear c50
                  as_aux_lemma =>
                   have H' := Aside0.mk H
                   clear H
                   go_wp2
                   repeat (go_quiet (fail); try go_wp2)
                   go_meet
                   case rel => exact ⟨_, (((wrap64 (t315 * 2)) != (wrap64 ((wrap64 (t299 + t300)) * (wrap64 ((wrap64 (t300 - t299)) + 1)))))), z6_7_, H', ⟨by have := HJ12.out; have := HJ27.out; have := HJ37.out; first | omega | exact Nat.le_refl _⟩, ⟨by repeat (first | (with_reducible first | exact HB.out | apply below_alloc | apply pw_below_drewN | apply below_drew1) | exact HB.out)⟩⟩
                rw [if_neg c48] at H
                have c48b0 : (t310 == 2) = false := beq_eq_false_iff_ne.mpr c48
                have c48b1 : (t310 != 2) = true := bne_iff_ne.mpr c48
                by_cases c51 : (wrap64 (2 * t309)) = (wrap64 ((wrap64 (t299 + t300)) * t310))
                rotate_left
                · exact laws_FnHousesBalance.j3_dead ((if_neg c51).symm.trans H) hr_
                rw [if_pos c51] at H
                have c51b0 : ((wrap64 (2 * t309)) == (wrap64 ((wrap64 (t299 + t300)) * t310))) = true := beq_iff_eq.mpr c51
                have c51b1 : ((wrap64 (2 * t309)) != (wrap64 ((wrap64 (t299 + t300)) * t310))) = false := bne_eq_false_iff_eq.mpr c51
                clear c51
                as_aux_lemma =>
                 have H' := Aside0.mk H
                 clear H
                 go_wp2
                 repeat (go_quiet (fail); try go_wp2)
                 go_meet
                 case rel => exact ⟨_, (((wrap64 (t315 * 2)) != (wrap64 ((wrap64 (t299 + t300)) * (wrap64 ((wrap64 (t300 - t299)) + 1)))))), z6_7_, H', ⟨by have := HJ12.out; have := HJ27.out; have := HJ37.out; first | omega | exact Nat.le_refl _⟩, ⟨by repeat (first | (with_reducible first | exact HB.out | apply below_alloc | apply pw_below_drewN | apply below_drew1) | exact HB.out)⟩⟩
              rw [if_neg c47] at H
              have c47b0 : (t310 == 1) = false := beq_eq_false_iff_ne.mpr c47
              have c47b1 : (t310 != 1) = true := bne_iff_ne.mpr c47
              (first | rw [c47b0] | (simp only [i64_w, i32_w]; rw [c47b0]) | skip)
              by_cases c52 : t310 = 2
              rotate_left
              · exact laws_FnHousesBalance.j3_dead ((if_neg c52).symm.trans H) hr_
              rw [if_pos c52] at H
              have c52b0 : (t310 == 2) = true := beq_iff_eq.mpr c52
              have c52b1 : (t310 != 2) = false := bne_eq_false_iff_eq.mpr c52
              clear c52
              by_cases c53 : (Int.tmod t309 2) = 0
              · exact laws_FnHousesBalance.j3_dead ((if_pos c53).symm.trans H) hr_
              rw [if_neg c53] at H
              have c53b0 : ((Int.tmod t309 2) == 0) = false := beq_eq_false_iff_ne.mpr c53
              have c53b1 : ((Int.tmod t309 2) != 0) = true := bne_iff_ne.mpr c53
              by_cases c54 : (wrap64 (2 * t309)) = (wrap64 ((wrap64 (t299 + t300)) * t310))
              rotate_left
              · exact laws_FnHousesBalance.j3_dead ((if_neg c54).symm.trans H) hr_
              rw [if_pos c54] at H
              have c54b0 : ((wrap64 (2 * t309)) == (wrap64 ((wrap64 (t299 + t300)) * t310))) = true := beq_iff_eq.mpr c54
              have c54b1 : ((wrap64 (2 * t309)) != (wrap64 ((wrap64 (t299 + t300)) * t310))) = false := bne_eq_false_iff_eq.mpr c54
              clear c54
              as_aux_lemma =>
               have H' := Aside0.mk H
               clear H
               go_wp2
               repeat (go_quiet (fail); try go_wp2)
               go_meet
               case rel => exact ⟨_, (((wrap64 (t315 * 2)) != (wrap64 ((wrap64 (t299 + t300)) * (wrap64 ((wrap64 (t300 - t299)) + 1)))))), z6_7_, H', ⟨by have := HJ12.out; have := HJ27.out; have := HJ37.out; first | omega | exact Nat.le_refl _⟩, ⟨by repeat (first | (with_reducible first | exact HB.out | apply below_alloc | apply pw_below_drewN | apply below_drew1) | exact HB.out)⟩⟩
            replace c46 := Bool.eq_false_iff.mpr c46
            subst c46
            rw [if_neg (show ¬ (false = true) by decide)] at H
            as_aux_lemma =>
             have H' := Aside0.mk H
             clear H
             go_wp2
             repeat (go_quiet (fail); try go_wp2)
             go_meet
             case rel => exact ⟨_, (false), z6_7_, H', ⟨by have := HJ12.out; have := HJ27.out; have := HJ37.out; first | omega | exact Nat.le_refl _⟩, ⟨by repeat (first | (with_reducible first | exact HB.out | apply below_alloc | apply pw_below_drewN | apply below_drew1) | exact HB.out)⟩⟩
          case rest =>
           as_aux_lemma =>
            clear HC45
            (try clear c1);(try clear c2);(try clear p2);(try clear c3);(try clear c4);(try clear c5);(try clear p6);(try clear c15);(try clear c15b0);(try clear c15b1);(try clear c15b2);(try clear c16);(try clear c16b0);(try clear c16b1);(try clear c17);(try clear c17b0);(try clear c17b1);(try clear c17b2);(try clear c18);(try clear c18b0);(try clear c18b1);(try clear c19);(try clear c19b0);(try clear c19b1);(try clear c19b2);(try clear c20);(try clear c20b0);(try clear c20b1);(try clear c21);(try clear c21b0);(try clear c21b1);(try clear c22);(try clear c22b0);(try clear c22b1);(try clear c22b2);(try clear c23);(try clear c24);(try clear c25);(try clear c26);(try clear c27);(try clear c29);(try clear c32);(try clear c32b0);(try clear c33);(try clear c33b0);(try clear c34);(try clear c35);(try clear c36);(try clear c36b0);(try clear c36b1);(try clear c37);(try clear c37b0);(try clear c37b1);(try clear c39);(try clear c41);(try clear c42);(try clear c42b0);(try clear c42b1);(try clear c43);(try clear c43b0);(try clear c44);(try clear c44b0);(try clear c46);(try clear c47);(try clear c47b0);(try clear c47b1);(try clear c48);(try clear c48b0);(try clear c48b1);(try clear c49);(try clear c49b0);(try clear c49b1);(try clear c50);(try clear c50b0);(try clear c50b1);(try clear c51);(try clear c51b0);(try clear c51b1);(try clear c52);(try clear c52b0);(try clear c52b1);(try clear c53);(try clear c53b0);(try clear c53b1);(try clear c54);(try clear c54b0);(try clear c54b1);(try clear p2);(try clear p6)
            obtain ⟨kq, x292_44, rfl, HA, HJ44, HB⟩ := hcut
            cases kq with
            | zero => exact absurd HA.out (by simp [laws_FnHousesBalance.j3])
            | succ kj44 =>
             have H := HA.out
             clear HA
             simp only [laws_FnHousesBalance.j3] at H
             by_cases c55 : x292_44 = true
             · subst c55
               rw [if_pos rfl] at H
               as_aux_lemma =>
                exact Bool.noConfusion ((Option.some.inj H).trans hr_.out)
             replace c55 := Bool.eq_false_iff.mpr c55
             subst c55
             rw [if_neg (show ¬ (false = true) by decide)] at H
             replace H := Option.bind_eq_some_iff.mp H
             obtain ⟨t323, A560, H⟩ := H
             have A56 := Aside0.mk A560
             clear A560
             replace H := Option.bind_eq_some_iff.mp H
             obtain ⟨⟨t324, t325⟩, A570, H⟩ := H
             dsimp only at H
             have A57 := Aside0.mk A570
             clear A570
             replace H := Option.bind_eq_some_iff.mp H
             obtain ⟨⟨t328, t329⟩, A580, H⟩ := H
             dsimp only at H
             have A58 := Aside0.mk A580
             clear A580
             replace H := Option.bind_eq_some_iff.mp H
             obtain ⟨⟨t332, t333⟩, A590, H⟩ := H
             dsimp only at H
             have A59 := Aside0.mk A590
             clear A590
             replace H := Option.bind_eq_some_iff.mp H
             obtain ⟨⟨t336, t337⟩, A600, H⟩ := H
             dsimp only at H
             have A60 := Aside0.mk A600
             clear A600
             replace H := Option.bind_eq_some_iff.mp H
             obtain ⟨⟨t340, t341⟩, A610, H⟩ := H
             dsimp only at H
             have A61 := Aside0.mk A610
             clear A610
             replace H := Option.bind_eq_some_iff.mp H
             obtain ⟨⟨t344, t345⟩, A620, H⟩ := H
             dsimp only at H
             have A62 := Aside0.mk A620
             clear A620
             replace H := Option.bind_eq_some_iff.mp H
             obtain ⟨⟨t348, t349, t350⟩, A630, H⟩ := H
             dsimp only at H
             have A63 := Aside0.mk A630
             clear A630
             replace H := Option.bind_eq_some_iff.mp H
             obtain ⟨⟨t351, t352⟩, A640, H⟩ := H
             dsimp only at H
             have A64 := Aside0.mk A640
             clear A640
             replace H := Option.bind_eq_some_iff.mp H
             obtain ⟨⟨t353, t354⟩, A650, H⟩ := H
             dsimp only at H
             have A65 := Aside0.mk A650
             clear A650
             replace H := Option.bind_eq_some_iff.mp H
             obtain ⟨⟨t355, t356⟩, A660, H⟩ := H
             dsimp only at H
             have A66 := Aside0.mk A660
             clear A660
             replace H := Option.bind_eq_some_iff.mp H
             obtain ⟨⟨t357, t358⟩, A670, H⟩ := H
             dsimp only at H
             have A67 := Aside0.mk A670
             clear A670
             replace H := Option.bind_eq_some_iff.mp H
             obtain ⟨⟨t359, t360, t361⟩, A680, H⟩ := H
             dsimp only at H
             have A68 := Aside0.mk A680
             clear A680
             replace H := Option.bind_eq_some_iff.mp H
             obtain ⟨⟨t362, t363⟩, A690, H⟩ := H
             dsimp only at H
             have A69 := Aside0.mk A690
             clear A690
             replace H := Option.bind_eq_some_iff.mp H
             obtain ⟨⟨t364, t365⟩, A700, H⟩ := H
             dsimp only at H
             have A70 := Aside0.mk A700
             clear A700
             by_cases c71 : (t325 != t329) = true
             · exact dead_ (if_pos c71) H hr_
             rw [if_neg c71] at H
             have c71b0 : (t325 != t329) = false := by simpa using c71
             (try (have c71b1 : decide (t325 = t329) = true := by simpa using c71))
             (try (have c71b2 : (t325 == t329) = true := by simpa using c71))
             clear c71
             replace H := Option.bind_eq_some_iff.mp H
             obtain ⟨t369, A720, H⟩ := H
             have A72 := Aside0.mk A720
             clear A720
             by_cases c73 : t369 = true
             · subst c73
               rw [if_pos rfl] at H
               by_cases c74 : (t333 != t337) = true
               · exact dead_ (if_pos c74) H hr_
               rw [if_neg c74] at H
               have c74b0 : (t333 != t337) = false := by simpa using c74
               (try (have c74b1 : decide (t333 = t337) = true := by simpa using c74))
               (try (have c74b2 : (t333 == t337) = true := by simpa using c74))
               clear c74
               replace H := Option.bind_eq_some_iff.mp H
               obtain ⟨t370, A750, H⟩ := H
               have A75 := Aside0.mk A750
               clear A750
               by_cases c76 : t370 = true
               · subst c76
                 rw [if_pos rfl] at H
                 by_cases c77 : (t341 != t345) = true
                 · exact dead_ (if_pos c77) H hr_
                 rw [if_neg c77] at H
                 have c77b0 : (t341 != t345) = false := by simpa using c77
                 (try (have c77b1 : decide (t341 = t345) = true := by simpa using c77))
                 (try (have c77b2 : (t341 == t345) = true := by simpa using c77))
                 clear c77
                 replace H := Option.bind_eq_some_iff.mp H
                 obtain ⟨t371, A780, H⟩ := H
                 have A78 := Aside0.mk A780
                 clear A780
                 by_cases c79 : t371 = true
                 · subst c79
                   rw [if_pos rfl] at H
                   by_cases c80 : (t352 != t354) = true
                   · exact dead_ (if_pos c80) H hr_
                   rw [if_neg c80] at H
                   have c80b0 : (t352 != t354) = false := by simpa using c80
                   (try (have c80b1 : decide (t352 = t354) = true := by simpa using c80))
                   (try (have c80b2 : (t352 == t354) = true := by simpa using c80))
                   clear c80
                   by_cases c81 : t351 = t353
                   rotate_left
                   · exact dead_ (if_neg c81) H hr_
                   rw [if_pos c81] at H
                   have c81b0 : (t351 == t353) = true := beq_iff_eq.mpr c81
                   have c81b1 : (t351 != t353) = false := bne_eq_false_iff_eq.mpr c81
                   clear c81
                   by_cases c82 : (t356 != t358) = true
                   · exact dead_ (if_pos c82) H hr_
                   rw [if_neg c82] at H
                   have c82b0 : (t356 != t358) = false := by simpa using c82
                   (try (have c82b1 : decide (t356 = t358) = true := by simpa using c82))
                   (try (have c82b2 : (t356 == t358) = true := by simpa using c82))
                   clear c82
                   by_cases c83 : t355 = t357
                   rotate_left
                   · exact dead_ (if_neg c83) H hr_
                   rw [if_pos c83] at H
                   have c83b0 : (t355 == t357) = true := beq_iff_eq.mpr c83
                   have c83b1 : (t355 != t357) = false := bne_eq_false_iff_eq.mpr c83
                   clear c83
                   by_cases c84 : (t363 != t365) = true
                   · exact dead_ (if_pos c84) H hr_
                   rw [if_neg c84] at H
                   have c84b0 : (t363 != t365) = false := by simpa using c84
                   (try (have c84b1 : decide (t363 = t365) = true := by simpa using c84))
                   (try (have c84b2 : (t363 == t365) = true := by simpa using c84))
                   clear c84
                   by_cases c85 : t362 = t364
                   rotate_left
                   · exact dead_ (if_neg c85) H hr_
                   rw [if_pos c85] at H
                   have c85b0 : (t362 == t364) = true := beq_iff_eq.mpr c85
                   have c85b1 : (t362 != t364) = false := bne_eq_false_iff_eq.mpr c85
                   clear c85
                   by_cases c86 : (t356 != t352) = true
                   · exact dead_ (if_pos c86) H hr_
                   rw [if_neg c86] at H
                   have c86b0 : (t356 != t352) = false := by simpa using c86
                   (try (have c86b1 : decide (t356 = t352) = true := by simpa using c86))
                   (try (have c86b2 : (t356 == t352) = true := by simpa using c86))
                   clear c86
                   by_cases c87 : (t333 != t325) = true
                   · exact dead_ (if_pos c87) H hr_
                   rw [if_neg c87] at H
                   have c87b0 : (t333 != t325) = false := by simpa using c87
                   (try (have c87b1 : decide (t333 = t325) = true := by simpa using c87))
                   (try (have c87b2 : (t333 == t325) = true := by simpa using c87))
                   clear c87
                   by_cases c88 : (t341 != t325) = true
                   · exact dead_ (if_pos c88) H hr_
                   rw [if_neg c88] at H
                   have c88b0 : (t341 != t325) = false := by simpa using c88
                   (try (have c88b1 : decide (t341 = t325) = true := by simpa using c88))
                   (try (have c88b2 : (t341 == t325) = true := by simpa using c88))
                   clear c88
                   have HC89 := Aside0.mk H
                   clear H
                   go_upto_if 455 with (first | (go_at_call 43; (with_reducible refine (spec_DrawBalancedStreets.calls _ _ l1 t323 _ ?side1 ?side2 A56.out).mono ?_); (case side1 => repeat (first | exact (Kd.C_below HR1.out HB.out) | (with_reducible refine Kd.C_alloc ?_ _) | (with_reducible refine Kd.C_drewN ?_ _) | (with_reducible refine Kd.C_drew ?_))); (case side2 => exact HC1.out); rintro e w90 ⟨rfl, hb⟩; have n0_ := Aside0.mk (below_step z6_2_ hb); clear HB; have HB := n0_; clear n0_; (try clear hb); (try clear hb2); (try clear hk); (try clear hi)) | (go_at_call 44; (with_reducible refine (impl_BalancedStreets.calls kj44 t323 t324 t325 _ A57.out).mono ?_); rintro e w91 ⟨v326, rfl, ho0, hb⟩; have n0_ := Aside0.mk (Kd.S_lower ho0 (below_size z6_2_)); have n1_ := Aside0.mk (below_step z6_2_ hb); clear HB; have HO327 := n0_; have HB := n1_; clear n0_ n1_; (try clear hb); (try clear hb2); (try clear hk); (try clear hi); (try clear ho0)) | (go_at_call 45; (with_reducible refine (spec_BalancedStreets.calls kj44 t323 t328 t329 _ A58.out).mono ?_); rintro e w92 ⟨v330, rfl, ho0, hb⟩; have n0_ := Aside0.mk (Kd.S_elder' z6_4_ (Kd.S_base ho0) hb); have n1_ := Aside0.mk (Kd.S_lower (Kd.S_new' ho0 (Kd.S_lt z6_4_)) (below_size z6_2_)); have n2_ := Aside0.mk (below_step z6_2_ hb); clear HO327; clear HB; have HO327 := n0_; have HO331 := n1_; have HB := n2_; clear n0_ n1_ n2_; (try clear hb); (try clear hb2); (try clear hk); (try clear hi); (try clear ho0)) | (go_at_call 46; (with_reducible refine (impl_BalancedOdd.calls kj44 t323 t332 t333 _ A59.out).mono ?_); rintro e w93 ⟨v334, rfl, ho0, hb⟩; have n0_ := Aside0.mk (Kd.S_elder' z6_4_ (Kd.S_base ho0) hb); have n1_ := Aside0.mk (Kd.S_elder' z6_5_ (Kd.S_base ho0) hb); have n2_ := Aside0.mk (Kd.S_lower (Kd.S_new' (Kd.S_new' ho0 (Kd.S_lt z6_4_)) (Kd.S_lt z6_5_)) (below_size z6_2_)); have n3_ := Aside0.mk (below_step z6_2_ hb); clear HO327; clear HO331; clear HB; have HO327 := n0_; have HO331 := n1_; have HO335 := n2_; have HB := n3_; clear n0_ n1_ n2_ n3_; (try clear hb); (try clear hb2); (try clear hk); (try clear hi); (try clear ho0)) | (go_at_call 47; (with_reducible refine (spec_BalancedOdd.calls kj44 t323 t336 t337 _ A60.out).mono ?_); rintro e w94 ⟨v338, rfl, ho0, hb⟩; have n0_ := Aside0.mk (Kd.S_elder' z6_4_ (Kd.S_base ho0) hb); have n1_ := Aside0.mk (Kd.S_elder' z6_5_ (Kd.S_base ho0) hb); have n2_ := Aside0.mk (Kd.S_elder' z6_6_ (Kd.S_base ho0) hb); have n3_ := Aside0.mk (Kd.S_lower (Kd.S_new' (Kd.S_new' (Kd.S_new' ho0 (Kd.S_lt z6_4_)) (Kd.S_lt z6_5_)) (Kd.S_lt z6_6_)) (below_size z6_2_)); have n4_ := Aside0.mk (below_step z6_2_ hb); clear HO327; clear HO331; clear HO335; clear HB; have HO327 := n0_; have HO331 := n1_; have HO335 := n2_; have HO339 := n3_; have HB := n4_; clear n0_ n1_ n2_ n3_ n4_; (try clear hb); (try clear hb2); (try clear hk); (try clear hi); (try clear ho0)) | (go_at_call 48; (with_reducible refine (impl_SquareStreets.calls kj44 t323 t340 t341 _ A61.out).mono ?_); rintro e w95 ⟨v342, rfl, ho0, hb⟩; have n0_ := Aside0.mk (Kd.S_elder' z6_4_ (Kd.R_base ho0) hb); have n1_ := Aside0.mk (Kd.S_elder' z6_5_ (Kd.R_base ho0) hb); have n2_ := Aside0.mk (Kd.S_elder' z6_6_ (Kd.R_base ho0) hb); have n3_ := Aside0.mk (Kd.S_elder' z6_8_ (Kd.R_base ho0) hb); have n4_ := Aside0.mk (Kd.R_lower ho0 (below_size z6_2_)); have n5_ := Aside0.mk (below_step z6_2_ hb); clear HO327; clear HO331; clear HO335; clear HO339; clear HB; have HO327 := n0_; have HO331 := n1_; have HO335 := n2_; have HO339 := n3_; have HO343 := n4_; have HB := n5_; clear n0_ n1_ n2_ n3_ n4_ n5_; (try clear hb); (try clear hb2); (try clear hk); (try clear hi); (try clear ho0)) | (go_at_call 49; (with_reducible refine (spec_SquareStreets.calls kj44 t323 t344 t345 _ A62.out).mono ?_); rintro e w96 ⟨v346, rfl, ho0, hb⟩; have n0_ := Aside0.mk (Kd.S_elder' z6_4_ (Kd.R_base ho0) hb); have n1_ := Aside0.mk (Kd.S_elder' z6_5_ (Kd.R_base ho0) hb); have n2_ := Aside0.mk (Kd.S_elder' z6_6_ (Kd.R_base ho0) hb); have n3_ := Aside0.mk (Kd.S_elder' z6_8_ (Kd.R_base ho0) hb); have n4_ := Aside0.mk (Kd.R_elder' z6_9_ (Kd.R_base ho0) hb); have n5_ := Aside0.mk (Kd.R_lower (Kd.R_new' ho0 (Kd.R_lt z6_9_)) (below_size z6_2_)); have n6_ := Aside0.mk (below_step z6_2_ hb); clear HO327; clear HO331; clear HO335; clear HO339; clear HO343; clear HB; have HO327 := n0_; have HO331 := n1_; have HO335 := n2_; have HO339 := n3_; have HO343 := n4_; have HO347 := n5_; have HB := n6_; clear n0_ n1_ n2_ n3_ n4_ n5_ n6_; (try clear hb); (try clear hb2); (try clear hk); (try clear hi); (try clear ho0)) | (go_at_call 50; (with_reducible refine (spec_DrawSumLeft.calls kj44 _ _ l1 t348 t349 t350 _ ?side1 ?side2 A63.out).mono ?_); (case side1 => repeat (first | exact (Kd.C_below HR1.out HB.out) | (with_reducible refine Kd.C_alloc ?_ _) | (with_reducible refine Kd.C_drewN ?_ _) | (with_reducible refine Kd.C_drew ?_))); (case side2 => exact HC1.out); rintro e w97 ⟨rfl, hb⟩; have n0_ := Aside0.mk (Kd.S_below z6_4_ hb); have n1_ := Aside0.mk (Kd.S_below z6_5_ hb); have n2_ := Aside0.mk (Kd.S_below z6_6_ hb); have n3_ := Aside0.mk (Kd.S_below z6_8_ hb); have n4_ := Aside0.mk (Kd.R_below z6_9_ hb); have n5_ := Aside0.mk (Kd.R_below z6_11_ hb); have n6_ := Aside0.mk (below_step z6_2_ hb); clear HO327; clear HO331; clear HO335; clear HO339; clear HO343; clear HO347; clear HB; have HO327 := n0_; have HO331 := n1_; have HO335 := n2_; have HO339 := n3_; have HO343 := n4_; have HO347 := n5_; have HB := n6_; clear n0_ n1_ n2_ n3_ n4_ n5_ n6_; (try clear hb); (try clear hb2); (try clear hk); (try clear hi)) | (go_at_call 41; (with_reducible refine (impl_SumLeft.calls kj44 t348 t349 t350 t351 t352 _ A64.out).mono ?_); rintro e w' ⟨rfl, ⟨nd, rfl⟩⟩; (try first | exact ⟨rfl, _, World.drewN_drewN _ _ _⟩ | exact ⟨rfl, _, Eq.trans (World.drewN_drewN _ _ _) (congrArg (World.drewN _) (Nat.add_assoc _ _ _))⟩)) | (go_at_call 51; (with_reducible refine (spec_SumLeft.calls t348 t349 t350 t353 t354 _ A65.out).mono ?_); rintro e w' ⟨rfl, ⟨nd, rfl⟩⟩; (try first | exact ⟨rfl, _, World.drewN_drewN _ _ _⟩ | exact ⟨rfl, _, Eq.trans (World.drewN_drewN _ _ _) (congrArg (World.drewN _) (Nat.add_assoc _ _ _))⟩)) | (go_at_call 42; (with_reducible refine (impl_SumRight.calls kj44 t348 t349 t350 t355 t356 _ A66.out).mono ?_); rintro e w' ⟨rfl, ⟨nd, rfl⟩⟩; (try first | exact ⟨rfl, _, World.drewN_drewN _ _ _⟩ | exact ⟨rfl, _, Eq.trans (World.drewN_drewN _ _ _) (congrArg (World.drewN _) (Nat.add_assoc _ _ _))⟩)) | (go_at_call 52; (with_reducible refine (spec_SumRight.calls t348 t349 t350 t357 t358 _ A67.out).mono ?_); rintro e w' ⟨rfl, ⟨nd, rfl⟩⟩; (try first | exact ⟨rfl, _, World.drewN_drewN _ _ _⟩ | exact ⟨rfl, _, Eq.trans (World.drewN_drewN _ _ _) (congrArg (World.drewN _) (Nat.add_assoc _ _ _))⟩)) | (go_at_call 53; (with_reducible refine (spec_DrawSumOfHouses.calls kj44 _ _ l1 t359 t360 t361 _ ?side1 ?side2 A68.out).mono ?_); (case side1 => repeat (first | exact (Kd.C_below HR1.out z6_2_) | (with_reducible refine Kd.C_alloc ?_ _) | (with_reducible refine Kd.C_drewN ?_ _) | (with_reducible refine Kd.C_drew ?_))); (case side2 => exact HC1.out); rintro e w98 ⟨rfl, hb⟩; have n0_ := Aside0.mk (Kd.S_below z6_4_ hb); have n1_ := Aside0.mk (Kd.S_below z6_5_ hb); have n2_ := Aside0.mk (Kd.S_below z6_6_ hb); have n3_ := Aside0.mk (Kd.S_below z6_8_ hb); have n4_ := Aside0.mk (Kd.R_below z6_9_ hb); have n5_ := Aside0.mk (Kd.R_below z6_11_ hb); have n6_ := Aside0.mk (below_step z6_2_ hb); clear HO327; clear HO331; clear HO335; clear HO339; clear HO343; clear HO347; clear HB; have HO327 := n0_; have HO331 := n1_; have HO335 := n2_; have HO339 := n3_; have HO343 := n4_; have HO347 := n5_; have HB := n6_; clear n0_ n1_ n2_ n3_ n4_ n5_ n6_; (try clear hb); (try clear hb2); (try clear hk); (try clear hi)) | (go_at_call 19; (with_reducible refine (impl_SumOfHouses.calls t359 t360 t361 t362 t363 _ A69.out).mono ?_); rintro e w' ⟨rfl, ⟨nd, rfl⟩⟩; (try first | exact ⟨rfl, _, World.drewN_drewN _ _ _⟩ | exact ⟨rfl, _, Eq.trans (World.drewN_drewN _ _ _) (congrArg (World.drewN _) (Nat.add_assoc _ _ _))⟩)) | (go_at_call 54; (with_reducible refine (spec_SumOfHouses.calls t359 t360 t361 t364 t365 _ A70.out).mono ?_); rintro e w' ⟨rfl, ⟨nd, rfl⟩⟩; (try first | exact ⟨rfl, _, World.drewN_drewN _ _ _⟩ | exact ⟨rfl, _, Eq.trans (World.drewN_drewN _ _ _) (congrArg (World.drewN _) (Nat.add_assoc _ _ _))⟩); obtain ⟨Ao99, co99, eo99⟩ := Kd.S_slice HO327.out; subst eo99; obtain ⟨Ao100, co100, eo100⟩ := Kd.S_slice HO331.out; subst eo100) | (go_at_call 18; (with_reducible refine (laws_iRows.calls kj44 _ _ t324 _ _ t328 true _ ?side1 ?side2 ?side3 ?side4 A72.out).mono ?_); (case side1 => repeat (first | exact (Kd.S_reads' HO327.out).2.2 | (with_reducible refine Kd.C_alloc ?_ _) | (with_reducible refine Kd.C_drewN ?_ _) | (with_reducible refine Kd.C_drew ?_))); (case side2 => exact (Kd.S_reads' HO327.out).2.1); (case side3 => repeat (first | exact (Kd.S_reads' HO331.out).2.2 | (with_reducible refine Kd.C_alloc ?_ _) | (with_reducible refine Kd.C_drewN ?_ _) | (with_reducible refine Kd.C_drew ?_))); (case side4 => exact (Kd.S_reads' HO331.out).2.1); rintro e w' ⟨rfl, ⟨nd, rfl⟩⟩; (try first | exact ⟨rfl, _, World.drewN_drewN _ _ _⟩ | exact ⟨rfl, _, Eq.trans (World.drewN_drewN _ _ _) (congrArg (World.drewN _) (Nat.add_assoc _ _ _))⟩); obtain ⟨Ao101, co101, eo101⟩ := Kd.S_slice HO335.out; subst eo101; obtain ⟨Ao102, co102, eo102⟩ := Kd.S_slice HO339.out; subst eo102) | (go_at_call 18; (with_reducible refine (laws_iRows.calls kj44 _ _ t332 _ _ t336 true _ ?side1 ?side2 ?side3 ?side4 A75.out).mono ?_); (case side1 => repeat (first | exact (Kd.S_reads' HO335.out).2.2 | (with_reducible refine Kd.C_alloc ?_ _) | (with_reducible refine Kd.C_drewN ?_ _) | (with_reducible refine Kd.C_drew ?_))); (case side2 => exact (Kd.S_reads' HO335.out).2.1); (case side3 => repeat (first | exact (Kd.S_reads' HO339.out).2.2 | (with_reducible refine Kd.C_alloc ?_ _) | (with_reducible refine Kd.C_drewN ?_ _) | (with_reducible refine Kd.C_drew ?_))); (case side4 => exact (Kd.S_reads' HO339.out).2.1); rintro e w' ⟨rfl, ⟨nd, rfl⟩⟩; (try first | exact ⟨rfl, _, World.drewN_drewN _ _ _⟩ | exact ⟨rfl, _, Eq.trans (World.drewN_drewN _ _ _) (congrArg (World.drewN _) (Nat.add_assoc _ _ _))⟩); obtain ⟨Ao103, co103, eo103⟩ := Kd.R_slice HO343.out; subst eo103; obtain ⟨Ao104, co104, eo104⟩ := Kd.R_slice HO347.out; subst eo104) | (go_at_call 55; (with_reducible refine (laws_iSame.calls kj44 _ _ t340 _ _ t344 true _ ?side1 ?side2 ?side3 ?side4 A78.out).mono ?_); (case side1 => repeat (first | exact (Kd.R_reads' HO343.out).2.2 | (with_reducible refine Kd.C_alloc ?_ _) | (with_reducible refine Kd.C_drewN ?_ _) | (with_reducible refine Kd.C_drew ?_))); (case side2 => exact (Kd.R_reads' HO343.out).2.1); (case side3 => repeat (first | exact (Kd.R_reads' HO347.out).2.2 | (with_reducible refine Kd.C_alloc ?_ _) | (with_reducible refine Kd.C_drewN ?_ _) | (with_reducible refine Kd.C_drew ?_))); (case side4 => exact (Kd.R_reads' HO347.out).2.1); rintro e w' ⟨rfl, ⟨nd, rfl⟩⟩; (try first | exact ⟨rfl, _, World.drewN_drewN _ _ _⟩ | exact ⟨rfl, _, Eq.trans (World.drewN_drewN _ _ _) (congrArg (World.drewN _) (Nat.add_assoc _ _ _))⟩)))
                   repeat (go_quiet (first | (go_at_call 19; (with_reducible refine (impl_SumOfHouses.calls t359 t360 t361 t362 t363 _ A69.out).mono ?_); rintro e w' ⟨rfl, ⟨nd, rfl⟩⟩; (try first | exact ⟨rfl, _, World.drewN_drewN _ _ _⟩ | exact ⟨rfl, _, Eq.trans (World.drewN_drewN _ _ _) (congrArg (World.drewN _) (Nat.add_assoc _ _ _))⟩))); go_upto_if 455 with (first | (go_at_call 43; (with_reducible refine (spec_DrawBalancedStreets.calls _ _ l1 t323 _ ?side1 ?side2 A56.out).mono ?_); (case side1 => repeat (first | exact (Kd.C_below HR1.out HB.out) | (with_reducible refine Kd.C_alloc ?_ _) | (with_reducible refine Kd.C_drewN ?_ _) | (with_reducible refine Kd.C_drew ?_))); (case side2 => exact HC1.out); rintro e w90 ⟨rfl, hb⟩; have n0_ := Aside0.mk (below_step z6_2_ hb); clear HB; have HB := n0_; clear n0_; (try clear hb); (try clear hb2); (try clear hk); (try clear hi)) | (go_at_call 44; (with_reducible refine (impl_BalancedStreets.calls kj44 t323 t324 t325 _ A57.out).mono ?_); rintro e w91 ⟨v326, rfl, ho0, hb⟩; have n0_ := Aside0.mk (Kd.S_lower ho0 (below_size z6_2_)); have n1_ := Aside0.mk (below_step z6_2_ hb); clear HB; have HO327 := n0_; have HB := n1_; clear n0_ n1_; (try clear hb); (try clear hb2); (try clear hk); (try clear hi); (try clear ho0)) | (go_at_call 45; (with_reducible refine (spec_BalancedStreets.calls kj44 t323 t328 t329 _ A58.out).mono ?_); rintro e w92 ⟨v330, rfl, ho0, hb⟩; have n0_ := Aside0.mk (Kd.S_elder' z6_4_ (Kd.S_base ho0) hb); have n1_ := Aside0.mk (Kd.S_lower (Kd.S_new' ho0 (Kd.S_lt z6_4_)) (below_size z6_2_)); have n2_ := Aside0.mk (below_step z6_2_ hb); clear HO327; clear HB; have HO327 := n0_; have HO331 := n1_; have HB := n2_; clear n0_ n1_ n2_; (try clear hb); (try clear hb2); (try clear hk); (try clear hi); (try clear ho0)) | (go_at_call 46; (with_reducible refine (impl_BalancedOdd.calls kj44 t323 t332 t333 _ A59.out).mono ?_); rintro e w93 ⟨v334, rfl, ho0, hb⟩; have n0_ := Aside0.mk (Kd.S_elder' z6_4_ (Kd.S_base ho0) hb); have n1_ := Aside0.mk (Kd.S_elder' z6_5_ (Kd.S_base ho0) hb); have n2_ := Aside0.mk (Kd.S_lower (Kd.S_new' (Kd.S_new' ho0 (Kd.S_lt z6_4_)) (Kd.S_lt z6_5_)) (below_size z6_2_)); have n3_ := Aside0.mk (below_step z6_2_ hb); clear HO327; clear HO331; clear HB; have HO327 := n0_; have HO331 := n1_; have HO335 := n2_; have HB := n3_; clear n0_ n1_ n2_ n3_; (try clear hb); (try clear hb2); (try clear hk); (try clear hi); (try clear ho0)) | (go_at_call 47; (with_reducible refine (spec_BalancedOdd.calls kj44 t323 t336 t337 _ A60.out).mono ?_); rintro e w94 ⟨v338, rfl, ho0, hb⟩; have n0_ := Aside0.mk (Kd.S_elder' z6_4_ (Kd.S_base ho0) hb); have n1_ := Aside0.mk (Kd.S_elder' z6_5_ (Kd.S_base ho0) hb); have n2_ := Aside0.mk (Kd.S_elder' z6_6_ (Kd.S_base ho0) hb); have n3_ := Aside0.mk (Kd.S_lower (Kd.S_new' (Kd.S_new' (Kd.S_new' ho0 (Kd.S_lt z6_4_)) (Kd.S_lt z6_5_)) (Kd.S_lt z6_6_)) (below_size z6_2_)); have n4_ := Aside0.mk (below_step z6_2_ hb); clear HO327; clear HO331; clear HO335; clear HB; have HO327 := n0_; have HO331 := n1_; have HO335 := n2_; have HO339 := n3_; have HB := n4_; clear n0_ n1_ n2_ n3_ n4_; (try clear hb); (try clear hb2); (try clear hk); (try clear hi); (try clear ho0)) | (go_at_call 48; (with_reducible refine (impl_SquareStreets.calls kj44 t323 t340 t341 _ A61.out).mono ?_); rintro e w95 ⟨v342, rfl, ho0, hb⟩; have n0_ := Aside0.mk (Kd.S_elder' z6_4_ (Kd.R_base ho0) hb); have n1_ := Aside0.mk (Kd.S_elder' z6_5_ (Kd.R_base ho0) hb); have n2_ := Aside0.mk (Kd.S_elder' z6_6_ (Kd.R_base ho0) hb); have n3_ := Aside0.mk (Kd.S_elder' z6_8_ (Kd.R_base ho0) hb); have n4_ := Aside0.mk (Kd.R_lower ho0 (below_size z6_2_)); have n5_ := Aside0.mk (below_step z6_2_ hb); clear HO327; clear HO331; clear HO335; clear HO339; clear HB; have HO327 := n0_; have HO331 := n1_; have HO335 := n2_; have HO339 := n3_; have HO343 := n4_; have HB := n5_; clear n0_ n1_ n2_ n3_ n4_ n5_; (try clear hb); (try clear hb2); (try clear hk); (try clear hi); (try clear ho0)) | (go_at_call 49; (with_reducible refine (spec_SquareStreets.calls kj44 t323 t344 t345 _ A62.out).mono ?_); rintro e w96 ⟨v346, rfl, ho0, hb⟩; have n0_ := Aside0.mk (Kd.S_elder' z6_4_ (Kd.R_base ho0) hb); have n1_ := Aside0.mk (Kd.S_elder' z6_5_ (Kd.R_base ho0) hb); have n2_ := Aside0.mk (Kd.S_elder' z6_6_ (Kd.R_base ho0) hb); have n3_ := Aside0.mk (Kd.S_elder' z6_8_ (Kd.R_base ho0) hb); have n4_ := Aside0.mk (Kd.R_elder' z6_9_ (Kd.R_base ho0) hb); have n5_ := Aside0.mk (Kd.R_lower (Kd.R_new' ho0 (Kd.R_lt z6_9_)) (below_size z6_2_)); have n6_ := Aside0.mk (below_step z6_2_ hb); clear HO327; clear HO331; clear HO335; clear HO339; clear HO343; clear HB; have HO327 := n0_; have HO331 := n1_; have HO335 := n2_; have HO339 := n3_; have HO343 := n4_; have HO347 := n5_; have HB := n6_; clear n0_ n1_ n2_ n3_ n4_ n5_ n6_; (try clear hb); (try clear hb2); (try clear hk); (try clear hi); (try clear ho0)) | (go_at_call 50; (with_reducible refine (spec_DrawSumLeft.calls kj44 _ _ l1 t348 t349 t350 _ ?side1 ?side2 A63.out).mono ?_); (case side1 => repeat (first | exact (Kd.C_below HR1.out HB.out) | (with_reducible refine Kd.C_alloc ?_ _) | (with_reducible refine Kd.C_drewN ?_ _) | (with_reducible refine Kd.C_drew ?_))); (case side2 => exact HC1.out); rintro e w97 ⟨rfl, hb⟩; have n0_ := Aside0.mk (Kd.S_below z6_4_ hb); have n1_ := Aside0.mk (Kd.S_below z6_5_ hb); have n2_ := Aside0.mk (Kd.S_below z6_6_ hb); have n3_ := Aside0.mk (Kd.S_below z6_8_ hb); have n4_ := Aside0.mk (Kd.R_below z6_9_ hb); have n5_ := Aside0.mk (Kd.R_below z6_11_ hb); have n6_ := Aside0.mk (below_step z6_2_ hb); clear HO327; clear HO331; clear HO335; clear HO339; clear HO343; clear HO347; clear HB; have HO327 := n0_; have HO331 := n1_; have HO335 := n2_; have HO339 := n3_; have HO343 := n4_; have HO347 := n5_; have HB := n6_; clear n0_ n1_ n2_ n3_ n4_ n5_ n6_; (try clear hb); (try clear hb2); (try clear hk); (try clear hi)) | (go_at_call 41; (with_reducible refine (impl_SumLeft.calls kj44 t348 t349 t350 t351 t352 _ A64.out).mono ?_); rintro e w' ⟨rfl, ⟨nd, rfl⟩⟩; (try first | exact ⟨rfl, _, World.drewN_drewN _ _ _⟩ | exact ⟨rfl, _, Eq.trans (World.drewN_drewN _ _ _) (congrArg (World.drewN _) (Nat.add_assoc _ _ _))⟩)) | (go_at_call 51; (with_reducible refine (spec_SumLeft.calls t348 t349 t350 t353 t354 _ A65.out).mono ?_); rintro e w' ⟨rfl, ⟨nd, rfl⟩⟩; (try first | exact ⟨rfl, _, World.drewN_drewN _ _ _⟩ | exact ⟨rfl, _, Eq.trans (World.drewN_drewN _ _ _) (congrArg (World.drewN _) (Nat.add_assoc _ _ _))⟩)) | (go_at_call 42; (with_reducible refine (impl_SumRight.calls kj44 t348 t349 t350 t355 t356 _ A66.out).mono ?_); rintro e w' ⟨rfl, ⟨nd, rfl⟩⟩; (try first | exact ⟨rfl, _, World.drewN_drewN _ _ _⟩ | exact ⟨rfl, _, Eq.trans (World.drewN_drewN _ _ _) (congrArg (World.drewN _) (Nat.add_assoc _ _ _))⟩)) | (go_at_call 52; (with_reducible refine (spec_SumRight.calls t348 t349 t350 t357 t358 _ A67.out).mono ?_); rintro e w' ⟨rfl, ⟨nd, rfl⟩⟩; (try first | exact ⟨rfl, _, World.drewN_drewN _ _ _⟩ | exact ⟨rfl, _, Eq.trans (World.drewN_drewN _ _ _) (congrArg (World.drewN _) (Nat.add_assoc _ _ _))⟩)) | (go_at_call 53; (with_reducible refine (spec_DrawSumOfHouses.calls kj44 _ _ l1 t359 t360 t361 _ ?side1 ?side2 A68.out).mono ?_); (case side1 => repeat (first | exact (Kd.C_below HR1.out z6_2_) | (with_reducible refine Kd.C_alloc ?_ _) | (with_reducible refine Kd.C_drewN ?_ _) | (with_reducible refine Kd.C_drew ?_))); (case side2 => exact HC1.out); rintro e w98 ⟨rfl, hb⟩; have n0_ := Aside0.mk (Kd.S_below z6_4_ hb); have n1_ := Aside0.mk (Kd.S_below z6_5_ hb); have n2_ := Aside0.mk (Kd.S_below z6_6_ hb); have n3_ := Aside0.mk (Kd.S_below z6_8_ hb); have n4_ := Aside0.mk (Kd.R_below z6_9_ hb); have n5_ := Aside0.mk (Kd.R_below z6_11_ hb); have n6_ := Aside0.mk (below_step z6_2_ hb); clear HO327; clear HO331; clear HO335; clear HO339; clear HO343; clear HO347; clear HB; have HO327 := n0_; have HO331 := n1_; have HO335 := n2_; have HO339 := n3_; have HO343 := n4_; have HO347 := n5_; have HB := n6_; clear n0_ n1_ n2_ n3_ n4_ n5_ n6_; (try clear hb); (try clear hb2); (try clear hk); (try clear hi)) | (go_at_call 19; (with_reducible refine (impl_SumOfHouses.calls t359 t360 t361 t362 t363 _ A69.out).mono ?_); rintro e w' ⟨rfl, ⟨nd, rfl⟩⟩; (try first | exact ⟨rfl, _, World.drewN_drewN _ _ _⟩ | exact ⟨rfl, _, Eq.trans (World.drewN_drewN _ _ _) (congrArg (World.drewN _) (Nat.add_assoc _ _ _))⟩)) | (go_at_call 54; (with_reducible refine (spec_SumOfHouses.calls t359 t360 t361 t364 t365 _ A70.out).mono ?_); rintro e w' ⟨rfl, ⟨nd, rfl⟩⟩; (try first | exact ⟨rfl, _, World.drewN_drewN _ _ _⟩ | exact ⟨rfl, _, Eq.trans (World.drewN_drewN _ _ _) (congrArg (World.drewN _) (Nat.add_assoc _ _ _))⟩); obtain ⟨Ao99, co99, eo99⟩ := Kd.S_slice HO327.out; subst eo99; obtain ⟨Ao100, co100, eo100⟩ := Kd.S_slice HO331.out; subst eo100) | (go_at_call 18; (with_reducible refine (laws_iRows.calls kj44 _ _ t324 _ _ t328 true _ ?side1 ?side2 ?side3 ?side4 A72.out).mono ?_); (case side1 => repeat (first | exact (Kd.S_reads' HO327.out).2.2 | (with_reducible refine Kd.C_alloc ?_ _) | (with_reducible refine Kd.C_drewN ?_ _) | (with_reducible refine Kd.C_drew ?_))); (case side2 => exact (Kd.S_reads' HO327.out).2.1); (case side3 => repeat (first | exact (Kd.S_reads' HO331.out).2.2 | (with_reducible refine Kd.C_alloc ?_ _) | (with_reducible refine Kd.C_drewN ?_ _) | (with_reducible refine Kd.C_drew ?_))); (case side4 => exact (Kd.S_reads' HO331.out).2.1); rintro e w' ⟨rfl, ⟨nd, rfl⟩⟩; (try first | exact ⟨rfl, _, World.drewN_drewN _ _ _⟩ | exact ⟨rfl, _, Eq.trans (World.drewN_drewN _ _ _) (congrArg (World.drewN _) (Nat.add_assoc _ _ _))⟩); obtain ⟨Ao101, co101, eo101⟩ := Kd.S_slice HO335.out; subst eo101; obtain ⟨Ao102, co102, eo102⟩ := Kd.S_slice HO339.out; subst eo102) | (go_at_call 18; (with_reducible refine (laws_iRows.calls kj44 _ _ t332 _ _ t336 true _ ?side1 ?side2 ?side3 ?side4 A75.out).mono ?_); (case side1 => repeat (first | exact (Kd.S_reads' HO335.out).2.2 | (with_reducible refine Kd.C_alloc ?_ _) | (with_reducible refine Kd.C_drewN ?_ _) | (with_reducible refine Kd.C_drew ?_))); (case side2 => exact (Kd.S_reads' HO335.out).2.1); (case side3 => repeat (first | exact (Kd.S_reads' HO339.out).2.2 | (with_reducible refine Kd.C_alloc ?_ _) | (with_reducible refine Kd.C_drewN ?_ _) | (with_reducible refine Kd.C_drew ?_))); (case side4 => exact (Kd.S_reads' HO339.out).2.1); rintro e w' ⟨rfl, ⟨nd, rfl⟩⟩; (try first | exact ⟨rfl, _, World.drewN_drewN _ _ _⟩ | exact ⟨rfl, _, Eq.trans (World.drewN_drewN _ _ _) (congrArg (World.drewN _) (Nat.add_assoc _ _ _))⟩); obtain ⟨Ao103, co103, eo103⟩ := Kd.R_slice HO343.out; subst eo103; obtain ⟨Ao104, co104, eo104⟩ := Kd.R_slice HO347.out; subst eo104) | (go_at_call 55; (with_reducible refine (laws_iSame.calls kj44 _ _ t340 _ _ t344 true _ ?side1 ?side2 ?side3 ?side4 A78.out).mono ?_); (case side1 => repeat (first | exact (Kd.R_reads' HO343.out).2.2 | (with_reducible refine Kd.C_alloc ?_ _) | (with_reducible refine Kd.C_drewN ?_ _) | (with_reducible refine Kd.C_drew ?_))); (case side2 => exact (Kd.R_reads' HO343.out).2.1); (case side3 => repeat (first | exact (Kd.R_reads' HO347.out).2.2 | (with_reducible refine Kd.C_alloc ?_ _) | (with_reducible refine Kd.C_drewN ?_ _) | (with_reducible refine Kd.C_drew ?_))); (case side4 => exact (Kd.R_reads' HO347.out).2.1); rintro e w' ⟨rfl, ⟨nd, rfl⟩⟩; (try first | exact ⟨rfl, _, World.drewN_drewN _ _ _⟩ | exact ⟨rfl, _, Eq.trans (World.drewN_drewN _ _ _) (congrArg (World.drewN _) (Nat.add_assoc _ _ _))⟩))))
                   (try simp only [Act.put, List.setIfInBounds_toArray, List.set_cons_zero, List.set_cons_succ])
                   go_cut [] from 293 to 629 (fun wc => ∃ (kq : Nat), Aside0 (laws_FnHousesBalance.j8 kq t348 t349 t350 t351 t352 t355 t359 t360 t361 t362 t363 = some r) ∧ Aside0 (kq ≤ kj44) ∧ Aside0 (Below w.heap.size w wc))
                   case first =>
                    as_aux_lemma =>
                     have H := HC89.out
                     clear HC89
                     by_cases c105 : t325 = true
                     · subst c105
                       rw [if_pos rfl] at H
                       by_cases c106 : (t324.length : Int) = (t340.length : Int)
                       rotate_left
                       · exact dead_ (if_neg c106) H hr_
                       rw [if_pos c106] at H
                       have c106b0 : ((t324.length : Int) == (t340.length : Int)) = true := beq_iff_eq.mpr c106
                       have c106b1 : ((t324.length : Int) != (t340.length : Int)) = false := bne_eq_false_iff_eq.mpr c106
                       have c106b2 : (t324.length == t340.length) = true := by first | simpa using c106 | (simp at c106 ⊢; omega)
                       clear c106
                       (first | rw [c106b0] | (simp only [i64_w, i32_w]; rw [c106b0]) | skip)
                       have H' := Aside0.mk H
                       clear H
                       go_wp2
                       repeat (go_quiet (fail); try go_wp2)
                       go_loopg [463] kj44 (fun kq v463 w' => ∃ (x463_5 : Int), v463 = .int .i64 x463_5 ∧ Aside0 (laws_FnHousesBalance.l0 kq t323 t324 t332 t340 t348 t349 t350 t351 t352 t355 t359 t360 t361 t362 t363 t324 (t324.length : Int) x463_5 = some r) ∧ Aside0 (kq ≤ kj44) ∧ Aside0 (Kd.S (Kd.slice 3 (Kd.int .i64)) 33 w' w.heap.size (fun k_ => some k_ ≠ ((.slice Ao101 t332.length co101) : Value).ownBlock ∧ some k_ ≠ ((.slice Ao103 t340.length co103) : Value).ownBlock) (.slice Ao99 t324.length co99) t324) ∧ Aside0 (Kd.S (Kd.slice 3 (Kd.int .i64)) 33 w' w.heap.size (fun k_ => some k_ ≠ ((.slice Ao99 t324.length co99) : Value).ownBlock ∧ some k_ ≠ ((.slice Ao103 t340.length co103) : Value).ownBlock ∧ some k_ ≠ ((.slice Ao99 t324.length co99) : Value).ownBlock) (.slice Ao101 t332.length co101) t332) ∧ Aside0 (Kd.R (Kd.int .i64) 3 w' w.heap.size (fun _ => True) (.slice Ao103 t340.length co103) t340) ∧ Aside0 (Kd.S (Kd.slice 3 (Kd.int .i64)) 33 w' w.heap.size (fun k_ => some k_ ≠ ((.slice Ao101 t332.length co101) : Value).ownBlock ∧ some k_ ≠ ((.slice Ao103 t340.length co103) : Value).ownBlock) (.slice Ao99 t324.length co99) t324) ∧ Aside0 (Below w.heap.size w w'))
                       case atStart => exact ⟨(0), z6_7_, H', ⟨Nat.le_refl _⟩, ⟨by (with_reducible repeat (first | apply Kd.S_alloc | apply Kd.S_drewN | apply Kd.S_drew)); exact Kd.S_mono HO327.out (fun _ hk => ⟨hk.1.1.1.2, hk.1.2⟩)⟩, ⟨by (with_reducible repeat (first | apply Kd.S_alloc | apply Kd.S_drewN | apply Kd.S_drew)); exact Kd.S_mono HO335.out (fun _ hk => ⟨hk.1.1.1.1.2, ⟨hk.1.2, hk.1.1.1.1.2⟩⟩)⟩, ⟨by (with_reducible repeat (first | apply Kd.R_alloc | apply Kd.R_drewN | apply Kd.R_drew)); exact Kd.R_mono HO343.out (fun _ hk => trivial)⟩, ⟨by (with_reducible repeat (first | apply Kd.S_alloc | apply Kd.S_drewN | apply Kd.S_drew)); exact Kd.S_mono HO327.out (fun _ hk => ⟨hk.1.1.1.2, hk.1.2⟩)⟩, ⟨by repeat (first | (with_reducible first | exact HB.out | apply below_alloc | apply pw_below_drewN | apply below_drew1) | exact HB.out)⟩⟩
                       case round =>
                        clear H'
                        (try clear c1);(try clear c2);(try clear p2);(try clear c3);(try clear c4);(try clear c5);(try clear p6);(try clear c7);(try clear c8);(try clear c10);(try clear c15);(try clear c15b0);(try clear c15b1);(try clear c15b2);(try clear c16);(try clear c16b0);(try clear c16b1);(try clear c17);(try clear c17b0);(try clear c17b1);(try clear c17b2);(try clear c18);(try clear c18b0);(try clear c18b1);(try clear c19);(try clear c19b0);(try clear c19b1);(try clear c19b2);(try clear c20);(try clear c20b0);(try clear c20b1);(try clear c21);(try clear c21b0);(try clear c21b1);(try clear c22);(try clear c22b0);(try clear c22b1);(try clear c22b2);(try clear c23);(try clear c24);(try clear c25);(try clear c26);(try clear c27);(try clear c29);(try clear c32);(try clear c32b0);(try clear c33);(try clear c33b0);(try clear c34);(try clear c35);(try clear c36);(try clear c36b0);(try clear c36b1);(try clear c37);(try clear c37b0);(try clear c37b1);(try clear c39);(try clear c41);(try clear c42);(try clear c42b0);(try clear c42b1);(try clear c43);(try clear c43b0);(try clear c44);(try clear c44b0);(try clear c46);(try clear c47);(try clear c47b0);(try clear c47b1);(try clear c48);(try clear c48b0);(try clear c48b1);(try clear c49);(try clear c49b0);(try clear c49b1);(try clear c50);(try clear c50b0);(try clear c50b1);(try clear c51);(try clear c51b0);(try clear c51b1);(try clear c52);(try clear c52b0);(try clear c52b1);(try clear c53);(try clear c53b0);(try clear c53b1);(try clear c54);(try clear c54b0);(try clear c54b1);(try clear c55);(try clear p64);(try clear c71);(try clear c71b0);(try clear c71b1);(try clear c71b2);(try clear c73);(try clear c74);(try clear c74b0);(try clear c74b1);(try clear c74b2);(try clear c76);(try clear c77);(try clear c77b0);(try clear c77b1);(try clear c77b2);(try clear c79);(try clear c80);(try clear c80b0);(try clear c80b1);(try clear c80b2);(try clear c81);(try clear c81b0);(try clear c81b1);(try clear c82);(try clear c82b0);(try clear c82b1);(try clear c82b2);(try clear c83);(try clear c83b0);(try clear c83b1);(try clear c84);(try clear c84b0);(try clear c84b1);(try clear c84b2);(try clear c85);(try clear c85b0);(try clear c85b1);(try clear c86);(try clear c86b0);(try clear c86b1);(try clear c86b2);(try clear c87);(try clear c87b0);(try clear c87b1);(try clear c87b2);(try clear c88);(try clear c88b0);(try clear c88b1);(try clear c88b2);(try clear c105);(try clear c106);(try clear c106b0);(try clear c106b1);(try clear c106b2);(try clear p2);(try clear p6)
                        obtain ⟨x463_5, rfl, HA, HK5, HO_30, HO_34, HO_38, HO_461, HB⟩ := hrel
                        cases gk with
                        | zero => exact absurd HA.out (by simp [laws_FnHousesBalance.l0])
                        | succ k5 =>
                         have H := HA.out
                         clear HA
                         simp only [laws_FnHousesBalance.l0] at H
                         by_cases c107 : x463_5 < (t324.length : Int)
                         · rw [if_pos c107] at H
                           have c107b0 : decide (x463_5 < (t324.length : Int)) = true := decide_eq_true c107
                           clear c107
                           by_cases c108 : 0 ≤ x463_5
                           rotate_left
                           · exact none_ (if_neg c108) H
                           rw [if_pos c108] at H
                           have c108b0 : decide (0 ≤ x463_5) = true := decide_eq_true c108
                           clear c108
                           by_cases c109 : x463_5 < (t324.length : Int)
                           rotate_left
                           · exact none_ (if_neg c109) H
                           rw [if_pos c109] at H
                           have c109b0 : decide (x463_5 < (t324.length : Int)) = true := decide_eq_true c109
                           clear c109
                           by_cases c110 : ((rd_L2 t324 x463_5).length : Int) = 2
                           rotate_left
                           · exact dead_ (if_neg c110) H hr_
                           rw [if_pos c110] at H
                           have c110b0 : (((rd_L2 t324 x463_5).length : Int) == 2) = true := beq_iff_eq.mpr c110
                           have c110b1 : (((rd_L2 t324 x463_5).length : Int) != 2) = false := bne_eq_false_iff_eq.mpr c110
                           clear c110
                           by_cases c111 : 1 < ((rd_L2 t324 x463_5).length : Int)
                           rotate_left
                           · exact none_ (if_neg c111) H
                           rw [if_pos c111] at H
                           have c111b0 : decide (1 < ((rd_L2 t324 x463_5).length : Int)) = true := decide_eq_true c111
                           have c111b1 : decide (1 < (rd_L2 t324 x463_5).length) = true := decide_eq_true (by omega)
                           clear c111
                           by_cases c112 : x463_5 < (t340.length : Int)
                           rotate_left
                           · exact none_ (if_neg c112) H
                           rw [if_pos c112] at H
                           have c112b0 : decide (x463_5 < (t340.length : Int)) = true := decide_eq_true c112
                           clear c112
                           by_cases c113 : (rd (rd_L2 t324 x463_5) 1) = (rd t340 x463_5)
                           rotate_left
                           · exact dead_ (if_neg c113) H hr_
                           rw [if_pos c113] at H
                           have c113b0 : ((rd (rd_L2 t324 x463_5) 1) == (rd t340 x463_5)) = true := beq_iff_eq.mpr c113
                           have c113b1 : ((rd (rd_L2 t324 x463_5) 1) != (rd t340 x463_5)) = false := bne_eq_false_iff_eq.mpr c113
                           clear c113
                           by_cases c114 : (rd (rd_L2 t324 x463_5) 1) > t323
                           · exact dead_ (if_pos c114) H hr_
                           rw [if_neg c114] at H
                           have c114b0 : decide (t323 < (rd (rd_L2 t324 x463_5) 1)) = false := decide_eq_false c114
                           clear c114
                           by_cases c115 : x463_5 > 0
                           · rw [if_pos c115] at H
                             have c115b0 : decide (0 < x463_5) = true := decide_eq_true c115
                             clear c115
                             obtain ⟨ji116, hji116⟩ : ∃ j_ : Int, (wrap64 (x463_5 - 1)) = j_ := ⟨_, rfl⟩
                             replace H : (if 0 ≤ (ji116) then (if (ji116) < (t324.length : Int) then (if 1 < ((rd_L2 t324 (ji116)).length : Int) then (if (rd (rd_L2 t324 (ji116)) 1) ≥ (rd (rd_L2 t324 x463_5) 1) then (some false) else ((impl_BalancedHouse.f k5 1 (rd (rd_L2 t324 x463_5) 1)).bind fun bt386 => (if bt386.2 = true then (if 0 < ((rd_L2 t324 x463_5).length : Int) then (if bt386.1 = (rd (rd_L2 t324 x463_5) 0) then (laws_FnHousesBalance.l0 k5 t323 t324 t332 t340 t348 t349 t350 t351 t352 t355 t359 t360 t361 t362 t363 t324 (t324.length : Int) (wrap64 (x463_5 + 1))) else (some false)) else (none)) else (some false)))) else (none)) else (none)) else (none)) = some r := by first | (rw [hji116] at H; exact H) | (simp only [hji116] at H ⊢; exact H)
                             have hji116w : (IntKind.i64.wrap (x463_5 - 1)) = ji116 := (i64_w _).trans hji116
                             by_cases c117 : 0 ≤ (ji116)
                             rotate_left
                             · exact none_ (if_neg c117) H
                             rw [if_pos c117] at H
                             have c117b0 : decide (0 ≤ (ji116)) = true := decide_eq_true c117
                             clear c117
                             by_cases c118 : (ji116) < (t324.length : Int)
                             rotate_left
                             · exact none_ (if_neg c118) H
                             rw [if_pos c118] at H
                             have c118b0 : decide ((ji116) < (t324.length : Int)) = true := decide_eq_true c118
                             clear c118
                             by_cases c119 : 1 < ((rd_L2 t324 (ji116)).length : Int)
                             rotate_left
                             · exact none_ (if_neg c119) H
                             rw [if_pos c119] at H
                             have c119b0 : decide (1 < ((rd_L2 t324 (ji116)).length : Int)) = true := decide_eq_true c119
                             have c119b1 : decide (1 < (rd_L2 t324 (ji116)).length) = true := decide_eq_true (by omega)
                             clear c119
                             by_cases c120 : (rd (rd_L2 t324 (ji116)) 1) ≥ (rd (rd_L2 t324 x463_5) 1)
                             · exact dead_ (if_pos c120) H hr_
                             rw [if_neg c120] at H
                             have c120b0 : decide ((rd (rd_L2 t324 x463_5) 1) ≤ (rd (rd_L2 t324 (ji116)) 1)) = false := decide_eq_false c120
                             clear c120
                             replace H := Option.bind_eq_some_iff.mp H
                             obtain ⟨⟨t386, t387⟩, A1210, H⟩ := H
                             dsimp only at H
                             have A121 := Aside0.mk A1210
                             clear A1210
                             by_cases c122 : t387 = true
                             · subst c122
                               rw [if_pos rfl] at H
                               by_cases c123 : 0 < ((rd_L2 t324 x463_5).length : Int)
                               rotate_left
                               · exact none_ (if_neg c123) H
                               rw [if_pos c123] at H
                               have c123b0 : decide (0 < ((rd_L2 t324 x463_5).length : Int)) = true := decide_eq_true c123
                               have c123b1 : decide (0 < (rd_L2 t324 x463_5).length) = true := decide_eq_true (by omega)
                               clear c123
                               by_cases c124 : t386 = (rd (rd_L2 t324 x463_5) 0)
                               rotate_left
                               · exact dead_ (if_neg c124) H hr_
                               rw [if_pos c124] at H
                               have c124b0 : (t386 == (rd (rd_L2 t324 x463_5) 0)) = true := beq_iff_eq.mpr c124
                               have c124b1 : (t386 != (rd (rd_L2 t324 x463_5) 0)) = false := bne_eq_false_iff_eq.mpr c124
                               clear c124
                               as_aux_lemma =>
                                have H' := Aside0.mk H
                                clear H
                                have p372 : 0 ≤ (x463_5 : Int) := of_decide_eq_true z6_1_
                                have q372 : x463_5 < (t324.length : Int) := of_decide_eq_true z6_1_
                                obtain ⟨ad372, A372_0, c372_0, e372, hx372_0, hl372_0, hi372_0⟩ := at_L2 (Kd.S_reads' HO_461.out).2.2 x463_5 p372 q372
                                cases e372
                                obtain ⟨ce372, hce372, hMe372, hcc372⟩ := Kd.S_get HO_461.out [] x463_5 p372 (by first | exact q372 | exact of_decide_eq_true z6_1_ | (have e_ := (Kd.S_reads' HO_461.out).1; omega))
                                obtain ⟨ve372_0, rfl, ge372_0⟩ := hMe372
                                have hv372_0 := hcc372 0 _ rfl
                                rw [Nat.add_zero, show ((Kd.slice 3 (Kd.int .i64))).sz = 1 from rfl, Nat.mul_one] at hv372_0
                                replace hv372_0 := Option.some.inj (hv372_0.symm.trans hx372_0)
                                rw [hv372_0] at ge372_0
                                have HL372_0 := Aside0.mk (show Kd.R (Kd.int .i64) 3 _ _ _ _ (rd_L2 t324 x463_5) from ge372_0)
                                clear hv372_0 ge372_0
                                clear hcc372 hce372
                                have HR372_0 := Aside0.mk hi372_0
                                have HC372_0 := Aside0.mk hl372_0
                                clear hi372_0 hl372_0
                                replace p372 := eq_true p372
                                replace q372 := eq_true q372
                                have p379 : 0 ≤ (1 : Int) := (by omega)
                                have q379 : 1 < ((rd_L2 t324 x463_5).length : Int) := of_decide_eq_true z6_1_
                                obtain ⟨ad379, e379, hx379_0⟩ := Kd.at_int z6_3_ 1 p379 q379
                                cases e379
                                (try simp only [show (1 : Int).toNat = 1 from rfl, Nat.reduceMul, Nat.reduceEqDiff, Go.Addr.add, ↓reduceIte] at hx379_0)
                                have qi379 : (1 < (rd_L2 t324 x463_5).length) = True := eq_true (by omega)
                                (try rw [show ((1 : Int)).toNat = 1 from rfl] at hx379_0)
                                replace p379 := eq_true p379
                                replace q379 := eq_true q379
                                have p380 : 0 ≤ (x463_5 : Int) := of_decide_eq_true z6_1_
                                have q380 : x463_5 < (t340.length : Int) := of_decide_eq_true z6_1_
                                obtain ⟨ad380, e380, hx380_0⟩ := Kd.at_int (Kd.R_reads' HO_38.out).2.2 x463_5 p380 q380
                                cases e380
                                replace p380 := eq_true p380
                                replace q380 := eq_true q380
                                have p381 : 0 ≤ (1 : Int) := (by omega)
                                have q381 : 1 < ((rd_L2 t324 x463_5).length : Int) := of_decide_eq_true z6_1_
                                obtain ⟨ad381, e381, hx381_0⟩ := Kd.at_int z6_3_ 1 p381 q381
                                obtain rfl : ad379 = ad381 := (by injection e381)
                                (try simp only [show (1 : Int).toNat = 1 from rfl, Nat.reduceMul, Nat.reduceEqDiff, Go.Addr.add, ↓reduceIte] at hx381_0)
                                have qi381 : (1 < (rd_L2 t324 x463_5).length) = True := eq_true (by omega)
                                (try rw [show ((1 : Int)).toNat = 1 from rfl] at hx381_0)
                                replace p381 := eq_true p381
                                replace q381 := eq_true q381
                                have p382 : 0 ≤ ((ji116) : Int) := of_decide_eq_true z6_1_
                                have q382 : (ji116) < (t324.length : Int) := of_decide_eq_true z6_1_
                                obtain ⟨ad382, A382_0, c382_0, e382, hx382_0, hl382_0, hi382_0⟩ := at_L2 (Kd.S_reads' HO_30.out).2.2 (ji116) p382 q382
                                obtain rfl : ad372 = ad382 := (by injection e382)
                                obtain ⟨ce382, hce382, hMe382, hcc382⟩ := Kd.S_get HO_30.out [] (ji116) p382 (by first | exact q382 | exact of_decide_eq_true z6_1_ | (have e_ := (Kd.S_reads' HO_30.out).1; omega))
                                obtain ⟨ve382_0, rfl, ge382_0⟩ := hMe382
                                have hv382_0 := hcc382 0 _ rfl
                                rw [Nat.add_zero, show ((Kd.slice 3 (Kd.int .i64))).sz = 1 from rfl, Nat.mul_one] at hv382_0
                                replace hv382_0 := Option.some.inj (hv382_0.symm.trans hx382_0)
                                rw [hv382_0] at ge382_0
                                have HL382_0 := Aside0.mk (show Kd.R (Kd.int .i64) 3 _ _ _ _ (rd_L2 t324 (ji116)) from ge382_0)
                                clear hv382_0 ge382_0
                                clear hcc382 hce382
                                have HR382_0 := Aside0.mk hi382_0
                                have HC382_0 := Aside0.mk hl382_0
                                clear hi382_0 hl382_0
                                replace p382 := eq_true p382
                                replace q382 := eq_true q382
                                have p383 : 0 ≤ (1 : Int) := (by omega)
                                have q383 : 1 < ((rd_L2 t324 (ji116)).length : Int) := of_decide_eq_true z6_1_
                                obtain ⟨ad383, e383, hx383_0⟩ := Kd.at_int (by repeat (first | (with_reducible exact HR382_0.out) | (with_reducible refine Kd.C_alloc ?_ _) | (with_reducible refine Kd.C_drewN ?_ _) | (with_reducible refine Kd.C_drew ?_) | exact HR382_0.out)) 1 p383 q383
                                cases e383
                                (try simp only [show (1 : Int).toNat = 1 from rfl, Nat.reduceMul, Nat.reduceEqDiff, Go.Addr.add, ↓reduceIte] at hx383_0)
                                have qi383 : (1 < (rd_L2 t324 (ji116)).length) = True := eq_true (by omega)
                                (try rw [show ((1 : Int)).toNat = 1 from rfl] at hx383_0)
                                replace p383 := eq_true p383
                                replace q383 := eq_true q383
                                have p384 : 0 ≤ (1 : Int) := (by omega)
                                have q384 : 1 < ((rd_L2 t324 x463_5).length : Int) := of_decide_eq_true z6_1_
                                obtain ⟨ad384, e384, hx384_0⟩ := Kd.at_int z6_3_ 1 p384 q384
                                obtain rfl : ad379 = ad384 := (by injection e384)
                                (try simp only [show (1 : Int).toNat = 1 from rfl, Nat.reduceMul, Nat.reduceEqDiff, Go.Addr.add, ↓reduceIte] at hx384_0)
                                have qi384 : (1 < (rd_L2 t324 x463_5).length) = True := eq_true (by omega)
                                (try rw [show ((1 : Int)).toNat = 1 from rfl] at hx384_0)
                                replace p384 := eq_true p384
                                replace q384 := eq_true q384
                                have p385 : 0 ≤ (1 : Int) := (by omega)
                                have q385 : 1 < ((rd_L2 t324 x463_5).length : Int) := of_decide_eq_true z6_1_
                                obtain ⟨ad385, e385, hx385_0⟩ := Kd.at_int z6_3_ 1 p385 q385
                                obtain rfl : ad379 = ad385 := (by injection e385)
                                (try simp only [show (1 : Int).toNat = 1 from rfl, Nat.reduceMul, Nat.reduceEqDiff, Go.Addr.add, ↓reduceIte] at hx385_0)
                                have qi385 : (1 < (rd_L2 t324 x463_5).length) = True := eq_true (by omega)
                                (try rw [show ((1 : Int)).toNat = 1 from rfl] at hx385_0)
                                replace p385 := eq_true p385
                                replace q385 := eq_true q385
                                go_wp2_with (first | (go_at_call 35; (with_reducible refine (impl_BalancedHouse.calls k5 1 (rd (rd_L2 t324 x463_5) 1) t386 true _ A121.out).mono ?_); rintro e w' ⟨rfl, ⟨nd, rfl⟩⟩; (try first | exact ⟨rfl, _, World.drewN_drewN _ _ _⟩ | exact ⟨rfl, _, Eq.trans (World.drewN_drewN _ _ _) (congrArg (World.drewN _) (Nat.add_assoc _ _ _))⟩); have p389 : 0 ≤ (0 : Int) := (by omega); have q389 : 0 < ((rd_L2 t324 x463_5).length : Int) := of_decide_eq_true z6_1_; obtain ⟨ad389, e389, hx389_0⟩ := Kd.at_int z6_3_ 0 p389 q389; obtain rfl : ad379 = ad389 := (by injection e389); have qi389 : (0 < (rd_L2 t324 x463_5).length) = True := eq_true (by omega); (try rw [show ((0 : Int)).toNat = 0 from rfl] at hx389_0); (try rw [Addr.add_zero'] at hx389_0); replace p389 := eq_true p389; replace q389 := eq_true q389))
                                repeat (go_quiet (fail); try go_wp2_with (first | (go_at_call 35; (with_reducible refine (impl_BalancedHouse.calls k5 1 (rd (rd_L2 t324 x463_5) 1) t386 true _ A121.out).mono ?_); rintro e w' ⟨rfl, ⟨nd, rfl⟩⟩; (try first | exact ⟨rfl, _, World.drewN_drewN _ _ _⟩ | exact ⟨rfl, _, Eq.trans (World.drewN_drewN _ _ _) (congrArg (World.drewN _) (Nat.add_assoc _ _ _))⟩); have p389 : 0 ≤ (0 : Int) := (by omega); have q389 : 0 < ((rd_L2 t324 x463_5).length : Int) := of_decide_eq_true z6_1_; obtain ⟨ad389, e389, hx389_0⟩ := Kd.at_int z6_3_ 0 p389 q389; obtain rfl : ad379 = ad389 := (by injection e389); have qi389 : (0 < (rd_L2 t324 x463_5).length) = True := eq_true (by omega); (try rw [show ((0 : Int)).toNat = 0 from rfl] at hx389_0); (try rw [Addr.add_zero'] at hx389_0); replace p389 := eq_true p389; replace q389 := eq_true q389)))
                                go_roundg k5
                                case measure => have := HJ12.out; have := HJ27.out; have := HJ37.out; have := HJ44.out; have := HK5.out; omega
                                case rel => exact ⟨(wrap64 (x463_5 + 1)), z6_7_, H', ⟨by have := HJ12.out; have := HJ27.out; have := HJ37.out; have := HJ44.out; have := HK5.out; omega⟩, ⟨by (with_reducible repeat (first | apply Kd.S_alloc | apply Kd.S_drewN | apply Kd.S_drew)); exact HO_30.out⟩, ⟨by (with_reducible repeat (first | apply Kd.S_alloc | apply Kd.S_drewN | apply Kd.S_drew)); exact HO_34.out⟩, ⟨by (with_reducible repeat (first | apply Kd.R_alloc | apply Kd.R_drewN | apply Kd.R_drew)); exact HO_38.out⟩, ⟨by (with_reducible repeat (first | apply Kd.S_alloc | apply Kd.S_drewN | apply Kd.S_drew)); exact HO_461.out⟩, ⟨by repeat (first | (with_reducible first | exact HB.out | apply below_alloc | apply pw_below_drewN | apply below_drew1) | exact HB.out)⟩⟩
                             replace c122 := Bool.eq_false_iff.mpr c122
                             subst c122
                             rw [if_neg (show ¬ (false = true) by decide)] at H
                             as_aux_lemma =>
                              exact Bool.noConfusion ((Option.some.inj H).trans hr_.out)
                           rw [if_neg c115] at H
                           have c115b0 : decide (0 < x463_5) = false := decide_eq_false c115
                           clear c115
                           replace H := Option.bind_eq_some_iff.mp H
                           obtain ⟨⟨t391, t392⟩, A1250, H⟩ := H
                           dsimp only at H
                           have A125 := Aside0.mk A1250
                           clear A1250
                           by_cases c126 : t392 = true
                           · subst c126
                             rw [if_pos rfl] at H
                             by_cases c127 : 0 < ((rd_L2 t324 x463_5).length : Int)
                             rotate_left
                             · exact none_ (if_neg c127) H
                             rw [if_pos c127] at H
                             have c127b0 : decide (0 < ((rd_L2 t324 x463_5).length : Int)) = true := decide_eq_true c127
                             have c127b1 : decide (0 < (rd_L2 t324 x463_5).length) = true := decide_eq_true (by omega)
                             clear c127
                             by_cases c128 : t391 = (rd (rd_L2 t324 x463_5) 0)
                             rotate_left
                             · exact dead_ (if_neg c128) H hr_
                             rw [if_pos c128] at H
                             have c128b0 : (t391 == (rd (rd_L2 t324 x463_5) 0)) = true := beq_iff_eq.mpr c128
                             have c128b1 : (t391 != (rd (rd_L2 t324 x463_5) 0)) = false := bne_eq_false_iff_eq.mpr c128
                             clear c128
                             as_aux_lemma =>
                              have H' := Aside0.mk H
                              clear H
                              have p372 : 0 ≤ (x463_5 : Int) := of_decide_eq_true z6_1_
                              have q372 : x463_5 < (t324.length : Int) := of_decide_eq_true z6_1_
                              obtain ⟨ad372, A372_0, c372_0, e372, hx372_0, hl372_0, hi372_0⟩ := at_L2 (Kd.S_reads' HO_461.out).2.2 x463_5 p372 q372
                              cases e372
                              obtain ⟨ce372, hce372, hMe372, hcc372⟩ := Kd.S_get HO_461.out [] x463_5 p372 (by first | exact q372 | exact of_decide_eq_true z6_1_ | (have e_ := (Kd.S_reads' HO_461.out).1; omega))
                              obtain ⟨ve372_0, rfl, ge372_0⟩ := hMe372
                              have hv372_0 := hcc372 0 _ rfl
                              rw [Nat.add_zero, show ((Kd.slice 3 (Kd.int .i64))).sz = 1 from rfl, Nat.mul_one] at hv372_0
                              replace hv372_0 := Option.some.inj (hv372_0.symm.trans hx372_0)
                              rw [hv372_0] at ge372_0
                              have HL372_0 := Aside0.mk (show Kd.R (Kd.int .i64) 3 _ _ _ _ (rd_L2 t324 x463_5) from ge372_0)
                              clear hv372_0 ge372_0
                              clear hcc372 hce372
                              have HR372_0 := Aside0.mk hi372_0
                              have HC372_0 := Aside0.mk hl372_0
                              clear hi372_0 hl372_0
                              replace p372 := eq_true p372
                              replace q372 := eq_true q372
                              have p379 : 0 ≤ (1 : Int) := (by omega)
                              have q379 : 1 < ((rd_L2 t324 x463_5).length : Int) := of_decide_eq_true z6_1_
                              obtain ⟨ad379, e379, hx379_0⟩ := Kd.at_int z6_3_ 1 p379 q379
                              cases e379
                              (try simp only [show (1 : Int).toNat = 1 from rfl, Nat.reduceMul, Nat.reduceEqDiff, Go.Addr.add, ↓reduceIte] at hx379_0)
                              have qi379 : (1 < (rd_L2 t324 x463_5).length) = True := eq_true (by omega)
                              (try rw [show ((1 : Int)).toNat = 1 from rfl] at hx379_0)
                              replace p379 := eq_true p379
                              replace q379 := eq_true q379
                              have p380 : 0 ≤ (x463_5 : Int) := of_decide_eq_true z6_1_
                              have q380 : x463_5 < (t340.length : Int) := of_decide_eq_true z6_1_
                              obtain ⟨ad380, e380, hx380_0⟩ := Kd.at_int (Kd.R_reads' HO_38.out).2.2 x463_5 p380 q380
                              cases e380
                              replace p380 := eq_true p380
                              replace q380 := eq_true q380
                              have p381 : 0 ≤ (1 : Int) := (by omega)
                              have q381 : 1 < ((rd_L2 t324 x463_5).length : Int) := of_decide_eq_true z6_1_
                              obtain ⟨ad381, e381, hx381_0⟩ := Kd.at_int z6_3_ 1 p381 q381
                              obtain rfl : ad379 = ad381 := (by injection e381)
                              (try simp only [show (1 : Int).toNat = 1 from rfl, Nat.reduceMul, Nat.reduceEqDiff, Go.Addr.add, ↓reduceIte] at hx381_0)
                              have qi381 : (1 < (rd_L2 t324 x463_5).length) = True := eq_true (by omega)
                              (try rw [show ((1 : Int)).toNat = 1 from rfl] at hx381_0)
                              replace p381 := eq_true p381
                              replace q381 := eq_true q381
                              have p390 : 0 ≤ (1 : Int) := (by omega)
                              have q390 : 1 < ((rd_L2 t324 x463_5).length : Int) := of_decide_eq_true z6_1_
                              obtain ⟨ad390, e390, hx390_0⟩ := Kd.at_int z6_3_ 1 p390 q390
                              obtain rfl : ad379 = ad390 := (by injection e390)
                              (try simp only [show (1 : Int).toNat = 1 from rfl, Nat.reduceMul, Nat.reduceEqDiff, Go.Addr.add, ↓reduceIte] at hx390_0)
                              have qi390 : (1 < (rd_L2 t324 x463_5).length) = True := eq_true (by omega)
                              (try rw [show ((1 : Int)).toNat = 1 from rfl] at hx390_0)
                              replace p390 := eq_true p390
                              replace q390 := eq_true q390
                              go_wp2_with (first | (go_at_call 35; (with_reducible refine (impl_BalancedHouse.calls k5 1 (rd (rd_L2 t324 x463_5) 1) t391 true _ A125.out).mono ?_); rintro e w' ⟨rfl, ⟨nd, rfl⟩⟩; (try first | exact ⟨rfl, _, World.drewN_drewN _ _ _⟩ | exact ⟨rfl, _, Eq.trans (World.drewN_drewN _ _ _) (congrArg (World.drewN _) (Nat.add_assoc _ _ _))⟩); have p394 : 0 ≤ (0 : Int) := (by omega); have q394 : 0 < ((rd_L2 t324 x463_5).length : Int) := of_decide_eq_true z6_1_; obtain ⟨ad394, e394, hx394_0⟩ := Kd.at_int z6_3_ 0 p394 q394; obtain rfl : ad379 = ad394 := (by injection e394); have qi394 : (0 < (rd_L2 t324 x463_5).length) = True := eq_true (by omega); (try rw [show ((0 : Int)).toNat = 0 from rfl] at hx394_0); (try rw [Addr.add_zero'] at hx394_0); replace p394 := eq_true p394; replace q394 := eq_true q394))
                              repeat (go_quiet (fail); try go_wp2_with (first | (go_at_call 35; (with_reducible refine (impl_BalancedHouse.calls k5 1 (rd (rd_L2 t324 x463_5) 1) t391 true _ A125.out).mono ?_); rintro e w' ⟨rfl, ⟨nd, rfl⟩⟩; (try first | exact ⟨rfl, _, World.drewN_drewN _ _ _⟩ | exact ⟨rfl, _, Eq.trans (World.drewN_drewN _ _ _) (congrArg (World.drewN _) (Nat.add_assoc _ _ _))⟩); have p394 : 0 ≤ (0 : Int) := (by omega); have q394 : 0 < ((rd_L2 t324 x463_5).length : Int) := of_decide_eq_true z6_1_; obtain ⟨ad394, e394, hx394_0⟩ := Kd.at_int z6_3_ 0 p394 q394; obtain rfl : ad379 = ad394 := (by injection e394); have qi394 : (0 < (rd_L2 t324 x463_5).length) = True := eq_true (by omega); (try rw [show ((0 : Int)).toNat = 0 from rfl] at hx394_0); (try rw [Addr.add_zero'] at hx394_0); replace p394 := eq_true p394; replace q394 := eq_true q394)))
                              go_roundg k5
                              case measure => have := HJ12.out; have := HJ27.out; have := HJ37.out; have := HJ44.out; have := HK5.out; omega
                              case rel => exact ⟨(wrap64 (x463_5 + 1)), z6_7_, H', ⟨by have := HJ12.out; have := HJ27.out; have := HJ37.out; have := HJ44.out; have := HK5.out; omega⟩, ⟨by (with_reducible repeat (first | apply Kd.S_alloc | apply Kd.S_drewN | apply Kd.S_drew)); exact HO_30.out⟩, ⟨by (with_reducible repeat (first | apply Kd.S_alloc | apply Kd.S_drewN | apply Kd.S_drew)); exact HO_34.out⟩, ⟨by (with_reducible repeat (first | apply Kd.R_alloc | apply Kd.R_drewN | apply Kd.R_drew)); exact HO_38.out⟩, ⟨by (with_reducible repeat (first | apply Kd.S_alloc | apply Kd.S_drewN | apply Kd.S_drew)); exact HO_461.out⟩, ⟨by repeat (first | (with_reducible first | exact HB.out | apply below_alloc | apply pw_below_drewN | apply below_drew1) | exact HB.out)⟩⟩
                           replace c126 := Bool.eq_false_iff.mpr c126
                           subst c126
                           rw [if_neg (show ¬ (false = true) by decide)] at H
                           as_aux_lemma =>
                            exact Bool.noConfusion ((Option.some.inj H).trans hr_.out)
                         rw [if_neg c107] at H
                         have c107b0 : decide (x463_5 < (t324.length : Int)) = false := decide_eq_false c107
                         clear c107
                         have HC129 := Aside0.mk H
                         clear H
                         go_upto_block 2 with (fail)
                         repeat (go_quiet (fail); go_upto_block 2 with (fail))
                         go_cut [] from 293 to 540 (fun wc => ∃ (kq : Nat), Aside0 (laws_FnHousesBalance.j6 kq t323 t332 t348 t349 t350 t351 t352 t355 t359 t360 t361 t362 t363 = some r) ∧ Aside0 (kq ≤ k5) ∧ Aside0 (Kd.S (Kd.slice 3 (Kd.int .i64)) 33 wc w.heap.size (fun _ => True) (.slice Ao101 t332.length co101) t332) ∧ Aside0 (Below w.heap.size w wc))
                         case first =>
                          as_aux_lemma =>
                           have H := HC129.out
                           clear HC129
                           have H' := Aside0.mk H
                           clear H
                           go_wp2
                           repeat (go_quiet (fail); try go_wp2)
                           go_loopg [64] k5 (fun kq v64 w' => ∃ (x64_6 : Int), v64 = .int .i64 x64_6 ∧ Aside0 (laws_FnHousesBalance.l1 kq t323 t332 t340 t348 t349 t350 t351 t352 t355 t359 t360 t361 t362 t363 x64_6 = some r) ∧ Aside0 (kq ≤ k5) ∧ Aside0 (Kd.S (Kd.slice 3 (Kd.int .i64)) 33 w' w.heap.size (fun k_ => some k_ ≠ ((.slice Ao103 t340.length co103) : Value).ownBlock) (.slice Ao101 t332.length co101) t332) ∧ Aside0 (Kd.R (Kd.int .i64) 3 w' w.heap.size (fun _ => True) (.slice Ao103 t340.length co103) t340) ∧ Aside0 (Below w.heap.size w w'))
                           case atStart => exact ⟨(1), z6_7_, H', ⟨Nat.le_refl _⟩, ⟨by (with_reducible repeat (first | apply Kd.S_alloc | apply Kd.S_drewN | apply Kd.S_drew)); exact Kd.S_mono HO_34.out (fun _ hk => hk.2.1)⟩, ⟨by (with_reducible repeat (first | apply Kd.R_alloc | apply Kd.R_drewN | apply Kd.R_drew)); exact HO_38.out⟩, ⟨by repeat (first | (with_reducible first | exact HB.out | apply below_alloc | apply pw_below_drewN | apply below_drew1) | exact HB.out)⟩⟩
                           case round =>
                            clear H'
                            (try clear c1);(try clear c2);(try clear p2);(try clear c3);(try clear p3);(try clear q3);(try clear hx3);(try clear qi3);(try clear c4);(try clear c5);(try clear p6);(try clear c7);(try clear c8);(try clear c10);(try clear c11);(try clear c12);(try clear c15);(try clear c15b0);(try clear c15b1);(try clear c15b2);(try clear c16);(try clear c16b0);(try clear c16b1);(try clear c17);(try clear c17b0);(try clear c17b1);(try clear c17b2);(try clear c18);(try clear c18b0);(try clear c18b1);(try clear c19);(try clear c19b0);(try clear c19b1);(try clear c19b2);(try clear c20);(try clear c20b0);(try clear c20b1);(try clear c21);(try clear c21b0);(try clear c21b1);(try clear c22);(try clear c22b0);(try clear c22b1);(try clear c22b2);(try clear c23);(try clear c24);(try clear c25);(try clear c26);(try clear c27);(try clear c29);(try clear c32);(try clear c32b0);(try clear c33);(try clear c33b0);(try clear c34);(try clear c35);(try clear c36);(try clear c36b0);(try clear c36b1);(try clear c37);(try clear c37b0);(try clear c37b1);(try clear p37);(try clear q37);(try clear hx37);(try clear qi37);(try clear c38);(try clear p38);(try clear q38);(try clear hx38);(try clear qi38);(try clear c39);(try clear p39);(try clear q39);(try clear hx39);(try clear qi39);(try clear c41);(try clear c42);(try clear c42b0);(try clear c42b1);(try clear c43);(try clear c43b0);(try clear c44);(try clear c44b0);(try clear c46);(try clear c47);(try clear c47b0);(try clear c47b1);(try clear c48);(try clear c48b0);(try clear c48b1);(try clear c49);(try clear c49b0);(try clear c49b1);(try clear c50);(try clear c50b0);(try clear c50b1);(try clear c51);(try clear c51b0);(try clear c51b1);(try clear c52);(try clear c52b0);(try clear c52b1);(try clear c53);(try clear c53b0);(try clear c53b1);(try clear c54);(try clear c54b0);(try clear c54b1);(try clear c55);(try clear p64);(try clear c71);(try clear c71b0);(try clear c71b1);(try clear c71b2);(try clear c73);(try clear c74);(try clear c74b0);(try clear c74b1);(try clear c74b2);(try clear c76);(try clear c77);(try clear c77b0);(try clear c77b1);(try clear c77b2);(try clear c79);(try clear c80);(try clear c80b0);(try clear c80b1);(try clear c80b2);(try clear c81);(try clear c81b0);(try clear c81b1);(try clear c82);(try clear c82b0);(try clear c82b1);(try clear c82b2);(try clear c83);(try clear c83b0);(try clear c83b1);(try clear c84);(try clear c84b0);(try clear c84b1);(try clear c84b2);(try clear c85);(try clear c85b0);(try clear c85b1);(try clear c86);(try clear c86b0);(try clear c86b1);(try clear c86b2);(try clear c87);(try clear c87b0);(try clear c87b1);(try clear c87b2);(try clear c88);(try clear c88b0);(try clear c88b1);(try clear c88b2);(try clear c105);(try clear c106);(try clear c106b0);(try clear c106b1);(try clear c106b2);(try clear c107);(try clear c107b0);(try clear c108);(try clear c108b0);(try clear c109);(try clear c109b0);(try clear c110);(try clear c110b0);(try clear c110b1);(try clear c111);(try clear c111b0)
                            (try clear c111b1);(try clear c112);(try clear c112b0);(try clear c113);(try clear c113b0);(try clear c113b1);(try clear c114);(try clear c114b0);(try clear c115);(try clear c115b0);(try clear c117);(try clear c117b0);(try clear c118);(try clear c118b0);(try clear c119);(try clear c119b0);(try clear c119b1);(try clear c120);(try clear c120b0);(try clear c122);(try clear c123);(try clear c123b0);(try clear c123b1);(try clear c124);(try clear c124b0);(try clear c124b1);(try clear c126);(try clear c127);(try clear c127b0);(try clear c127b1);(try clear c128);(try clear c128b0);(try clear c128b1);(try clear hx372_0);(try clear hx379_0);(try clear hx380_0);(try clear hx381_0);(try clear hx382_0);(try clear hx383_0);(try clear hx384_0);(try clear hx385_0);(try clear hx389_0);(try clear hx390_0);(try clear hx394_0);(try clear p2);(try clear p372);(try clear p379);(try clear p380);(try clear p381);(try clear p382);(try clear p383);(try clear p384);(try clear p385);(try clear p389);(try clear p390);(try clear p394);(try clear p6);(try clear p64);(try clear q372);(try clear q379);(try clear q380);(try clear q381);(try clear q382);(try clear q383);(try clear q384);(try clear q385);(try clear q389);(try clear q390);(try clear q394)
                            obtain ⟨x64_6, rfl, HA, HK6, HO_34, HO_38, HB⟩ := hrel
                            cases gk with
                            | zero => exact absurd HA.out (by simp [laws_FnHousesBalance.l1])
                            | succ k6 =>
                             have H := HA.out
                             clear HA
                             simp only [laws_FnHousesBalance.l1] at H
                             by_cases c130 : x64_6 ≤ t323
                             · rw [if_pos c130] at H
                               have c130b0 : decide (x64_6 ≤ t323) = true := decide_eq_true c130
                               clear c130
                               (first | rw [c130b0] | (simp only [i64_w, i32_w]; rw [c130b0]) | skip)
                               by_cases c131 : x64_6 ≤ 60
                               · rw [if_pos c131] at H
                                 have c131b0 : decide (x64_6 ≤ 60) = true := decide_eq_true c131
                                 clear c131
                                 replace H := Option.bind_eq_some_iff.mp H
                                 obtain ⟨⟨t395, t396⟩, A1320, H⟩ := H
                                 dsimp only at H
                                 have A132 := Aside0.mk A1320
                                 clear A1320
                                 replace H := Option.bind_eq_some_iff.mp H
                                 obtain ⟨t397, A1330, H⟩ := H
                                 have A133 := Aside0.mk A1330
                                 clear A1330
                                 by_cases c134 : (t396 != t397) = true
                                 · exact dead_ (if_pos c134) H hr_
                                 rw [if_neg c134] at H
                                 have c134b0 : (t396 != t397) = false := by simpa using c134
                                 (try (have c134b1 : decide (t396 = t397) = true := by simpa using c134))
                                 (try (have c134b2 : (t396 == t397) = true := by simpa using c134))
                                 clear c134
                                 as_aux_lemma =>
                                  have H' := Aside0.mk H
                                  clear H
                                  go_wp2_with (first | (go_at_call 35; (with_reducible refine (impl_BalancedHouse.calls k6 1 x64_6 t395 t396 _ A132.out).mono ?_); rintro e w' ⟨rfl, ⟨nd, rfl⟩⟩; (try first | exact ⟨rfl, _, World.drewN_drewN _ _ _⟩ | exact ⟨rfl, _, Eq.trans (World.drewN_drewN _ _ _) (congrArg (World.drewN _) (Nat.add_assoc _ _ _))⟩)) | (go_at_call 56; (with_reducible refine (laws_iHas.calls k6 _ _ t340 x64_6 t397 _ ?side1 ?side2 A133.out).mono ?_); (case side1 => repeat (first | exact (Kd.R_reads' HO_38.out).2.2 | (with_reducible refine Kd.C_alloc ?_ _) | (with_reducible refine Kd.C_drewN ?_ _) | (with_reducible refine Kd.C_drew ?_))); (case side2 => exact (Kd.R_reads' HO_38.out).2.1); rintro e w' ⟨rfl, ⟨nd, rfl⟩⟩; (try first | exact ⟨rfl, _, World.drewN_drewN _ _ _⟩ | exact ⟨rfl, _, Eq.trans (World.drewN_drewN _ _ _) (congrArg (World.drewN _) (Nat.add_assoc _ _ _))⟩)))
                                  repeat (go_quiet (fail); try go_wp2_with (first | (go_at_call 35; (with_reducible refine (impl_BalancedHouse.calls k6 1 x64_6 t395 t396 _ A132.out).mono ?_); rintro e w' ⟨rfl, ⟨nd, rfl⟩⟩; (try first | exact ⟨rfl, _, World.drewN_drewN _ _ _⟩ | exact ⟨rfl, _, Eq.trans (World.drewN_drewN _ _ _) (congrArg (World.drewN _) (Nat.add_assoc _ _ _))⟩)) | (go_at_call 56; (with_reducible refine (laws_iHas.calls k6 _ _ t340 x64_6 t397 _ ?side1 ?side2 A133.out).mono ?_); (case side1 => repeat (first | exact (Kd.R_reads' HO_38.out).2.2 | (with_reducible refine Kd.C_alloc ?_ _) | (with_reducible refine Kd.C_drewN ?_ _) | (with_reducible refine Kd.C_drew ?_))); (case side2 => exact (Kd.R_reads' HO_38.out).2.1); rintro e w' ⟨rfl, ⟨nd, rfl⟩⟩; (try first | exact ⟨rfl, _, World.drewN_drewN _ _ _⟩ | exact ⟨rfl, _, Eq.trans (World.drewN_drewN _ _ _) (congrArg (World.drewN _) (Nat.add_assoc _ _ _))⟩))))
                                  go_roundg k6
                                  case measure => have := HJ12.out; have := HJ27.out; have := HJ37.out; have := HJ44.out; have := HK5.out; have := HK6.out; omega
                                  case rel => exact ⟨(wrap64 (x64_6 + 1)), z6_7_, H', ⟨by have := HJ12.out; have := HJ27.out; have := HJ37.out; have := HJ44.out; have := HK5.out; have := HK6.out; omega⟩, ⟨by (with_reducible repeat (first | apply Kd.S_alloc | apply Kd.S_drewN | apply Kd.S_drew)); exact HO_34.out⟩, ⟨by (with_reducible repeat (first | apply Kd.R_alloc | apply Kd.R_drewN | apply Kd.R_drew)); exact HO_38.out⟩, ⟨by repeat (first | (with_reducible first | exact HB.out | apply below_alloc | apply pw_below_drewN | apply below_drew1) | exact HB.out)⟩⟩
                               rw [if_neg c131] at H
                               have c131b0 : decide (x64_6 ≤ 60) = false := decide_eq_false c131
                               clear c131
                               as_aux_lemma =>
                                have H' := Aside0.mk H
                                clear H
                                go_wp2
                                repeat (go_quiet (fail); try go_wp2)
                                go_meet
                                case rel => exact ⟨_, H', ⟨by have := HJ12.out; have := HJ27.out; have := HJ37.out; have := HJ44.out; have := HK5.out; have := HK6.out; first | omega | exact Nat.le_refl _⟩, ⟨by (with_reducible repeat (first | apply Kd.S_alloc | apply Kd.S_drewN | apply Kd.S_drew)); exact Kd.S_mono HO_34.out (fun _ hk => trivial)⟩, ⟨by repeat (first | (with_reducible first | exact HB.out | apply below_alloc | apply pw_below_drewN | apply below_drew1) | exact HB.out)⟩⟩
                             rw [if_neg c130] at H
                             have c130b0 : decide (x64_6 ≤ t323) = false := decide_eq_false c130
                             clear c130
                             (first | rw [c130b0] | (simp only [i64_w, i32_w]; rw [c130b0]) | skip)
                             as_aux_lemma =>
                              have H' := Aside0.mk H
                              clear H
                              go_wp2
                              repeat (go_quiet (fail); try go_wp2)
                              go_meet
                              case rel => exact ⟨_, H', ⟨by have := HJ12.out; have := HJ27.out; have := HJ37.out; have := HJ44.out; have := HK5.out; have := HK6.out; first | omega | exact Nat.le_refl _⟩, ⟨by (with_reducible repeat (first | apply Kd.S_alloc | apply Kd.S_drewN | apply Kd.S_drew)); exact Kd.S_mono HO_34.out (fun _ hk => trivial)⟩, ⟨by repeat (first | (with_reducible first | exact HB.out | apply below_alloc | apply pw_below_drewN | apply below_drew1) | exact HB.out)⟩⟩
                         case rest =>
                          as_aux_lemma =>
                           clear HC129
                           (try clear c1);(try clear c2);(try clear p2);(try clear c3);(try clear p3);(try clear q3);(try clear hx3);(try clear qi3);(try clear c4);(try clear c5);(try clear p6);(try clear c7);(try clear c8);(try clear c10);(try clear c11);(try clear c12);(try clear c13);(try clear c15);(try clear c15b0);(try clear c15b1);(try clear c15b2);(try clear c16);(try clear c16b0);(try clear c16b1);(try clear c17);(try clear c17b0);(try clear c17b1);(try clear c17b2);(try clear c18);(try clear c18b0);(try clear c18b1);(try clear c19);(try clear c19b0);(try clear c19b1);(try clear c19b2);(try clear c20);(try clear c20b0);(try clear c20b1);(try clear c21);(try clear c21b0);(try clear c21b1);(try clear c22);(try clear c22b0);(try clear c22b1);(try clear c22b2);(try clear c23);(try clear c24);(try clear c25);(try clear c26);(try clear c27);(try clear c29);(try clear c32);(try clear c32b0);(try clear c33);(try clear c33b0);(try clear c34);(try clear c35);(try clear c36);(try clear c36b0);(try clear c36b1);(try clear c37);(try clear c37b0);(try clear c37b1);(try clear p37);(try clear q37);(try clear hx37);(try clear qi37);(try clear c38);(try clear p38);(try clear q38);(try clear hx38);(try clear qi38);(try clear c39);(try clear p39);(try clear q39);(try clear hx39);(try clear qi39);(try clear c41);(try clear c42);(try clear c42b0);(try clear c42b1);(try clear c43);(try clear c43b0);(try clear c44);(try clear c44b0);(try clear c46);(try clear c47);(try clear c47b0);(try clear c47b1);(try clear c48);(try clear c48b0);(try clear c48b1);(try clear c49);(try clear c49b0);(try clear c49b1);(try clear c50);(try clear c50b0);(try clear c50b1);(try clear c51);(try clear c51b0);(try clear c51b1);(try clear c52);(try clear c52b0);(try clear c52b1);(try clear c53);(try clear c53b0);(try clear c53b1);(try clear c54);(try clear c54b0);(try clear c54b1);(try clear c55);(try clear p64);(try clear c71);(try clear c71b0);(try clear c71b1);(try clear c71b2);(try clear c73);(try clear c74);(try clear c74b0);(try clear c74b1);(try clear c74b2);(try clear c76);(try clear c77);(try clear c77b0);(try clear c77b1);(try clear c77b2);(try clear c79);(try clear c80);(try clear c80b0);(try clear c80b1);(try clear c80b2);(try clear c81);(try clear c81b0);(try clear c81b1);(try clear c82);(try clear c82b0);(try clear c82b1);(try clear c82b2);(try clear c83);(try clear c83b0);(try clear c83b1);(try clear c84);(try clear c84b0);(try clear c84b1);(try clear c84b2);(try clear c85);(try clear c85b0);(try clear c85b1);(try clear c86);(try clear c86b0);(try clear c86b1);(try clear c86b2);(try clear c87);(try clear c87b0);(try clear c87b1);(try clear c87b2);(try clear c88);(try clear c88b0);(try clear c88b1);(try clear c88b2);(try clear c105);(try clear c106);(try clear c106b0);(try clear c106b1);(try clear c106b2);(try clear c107);(try clear c107b0);(try clear c108);(try clear c108b0);(try clear c109);(try clear c109b0);(try clear c110);(try clear c110b0);(try clear c110b1);(try clear c111)
                           (try clear c111b0);(try clear c111b1);(try clear c112);(try clear c112b0);(try clear c113);(try clear c113b0);(try clear c113b1);(try clear c114);(try clear c114b0);(try clear c115);(try clear c115b0);(try clear c117);(try clear c117b0);(try clear c118);(try clear c118b0);(try clear c119);(try clear c119b0);(try clear c119b1);(try clear c120);(try clear c120b0);(try clear c122);(try clear c123);(try clear c123b0);(try clear c123b1);(try clear c124);(try clear c124b0);(try clear c124b1);(try clear c126);(try clear c127);(try clear c127b0);(try clear c127b1);(try clear c128);(try clear c128b0);(try clear c128b1);(try clear c130);(try clear c130b0);(try clear c131);(try clear c131b0);(try clear c134);(try clear c134b0);(try clear c134b1);(try clear c134b2);(try clear hx372_0);(try clear hx379_0);(try clear hx380_0);(try clear hx381_0);(try clear hx382_0);(try clear hx383_0);(try clear hx384_0);(try clear hx385_0);(try clear hx389_0);(try clear hx390_0);(try clear hx394_0);(try clear p2);(try clear p3);(try clear p37);(try clear p372);(try clear p379);(try clear p38);(try clear p380);(try clear p381);(try clear p382);(try clear p383);(try clear p384);(try clear p385);(try clear p389);(try clear p39);(try clear p390);(try clear p394);(try clear p6);(try clear p64);(try clear q3);(try clear q37);(try clear q372);(try clear q379);(try clear q38);(try clear q380);(try clear q381);(try clear q382);(try clear q383);(try clear q384);(try clear q385);(try clear q389);(try clear q39);(try clear q390);(try clear q394)
                           obtain ⟨kq, HA, HJ128, HO_34, HB⟩ := hcut
                           cases kq with
                           | zero => exact absurd HA.out (by simp [laws_FnHousesBalance.j6])
                           | succ kj128 =>
                            have H := HA.out
                            clear HA
                            simp only [laws_FnHousesBalance.j6] at H
                            have H' := Aside0.mk H
                            clear H
                            go_wp2
                            repeat (go_quiet (fail); try go_wp2)
                            go_loopg [543] kj128 (fun kq v543 w' => ∃ (x543_7 : Int), v543 = .int .i64 x543_7 ∧ Aside0 (laws_FnHousesBalance.l2 kq t323 t332 t348 t349 t350 t351 t352 t355 t359 t360 t361 t362 t363 t332 (t332.length : Int) x543_7 = some r) ∧ Aside0 (kq ≤ kj128) ∧ Aside0 (Kd.S (Kd.slice 3 (Kd.int .i64)) 33 w' w.heap.size (fun _ => True) (.slice Ao101 t332.length co101) t332) ∧ Aside0 (Kd.S (Kd.slice 3 (Kd.int .i64)) 33 w' w.heap.size (fun _ => True) (.slice Ao101 t332.length co101) t332) ∧ Aside0 (Below w.heap.size w w'))
                            case atStart => exact ⟨(0), z6_7_, H', ⟨Nat.le_refl _⟩, ⟨by (with_reducible repeat (first | apply Kd.S_alloc | apply Kd.S_drewN | apply Kd.S_drew)); exact HO_34.out⟩, ⟨by (with_reducible repeat (first | apply Kd.S_alloc | apply Kd.S_drewN | apply Kd.S_drew)); exact HO_34.out⟩, ⟨by repeat (first | (with_reducible first | exact HB.out | apply below_alloc | apply pw_below_drewN | apply below_drew1) | exact HB.out)⟩⟩
                            case round =>
                             clear H'
                             (try clear c1);(try clear c2);(try clear p2);(try clear c3);(try clear p3);(try clear q3);(try clear hx3);(try clear qi3);(try clear c4);(try clear c5);(try clear p6);(try clear c7);(try clear c8);(try clear c10);(try clear c11);(try clear c12);(try clear c13);(try clear c15);(try clear c15b0);(try clear c15b1);(try clear c15b2);(try clear c16);(try clear c16b0);(try clear c16b1);(try clear c17);(try clear c17b0);(try clear c17b1);(try clear c17b2);(try clear c18);(try clear c18b0);(try clear c18b1);(try clear c19);(try clear c19b0);(try clear c19b1);(try clear c19b2);(try clear c20);(try clear c20b0);(try clear c20b1);(try clear c21);(try clear c21b0);(try clear c21b1);(try clear c22);(try clear c22b0);(try clear c22b1);(try clear c22b2);(try clear c23);(try clear c24);(try clear c25);(try clear c26);(try clear c27);(try clear c29);(try clear c32);(try clear c32b0);(try clear c33);(try clear c33b0);(try clear c34);(try clear c35);(try clear c36);(try clear c36b0);(try clear c36b1);(try clear c37);(try clear c37b0);(try clear c37b1);(try clear p37);(try clear q37);(try clear hx37);(try clear qi37);(try clear c38);(try clear p38);(try clear q38);(try clear hx38);(try clear qi38);(try clear c39);(try clear p39);(try clear q39);(try clear hx39);(try clear qi39);(try clear c41);(try clear c42);(try clear c42b0);(try clear c42b1);(try clear c43);(try clear c43b0);(try clear c44);(try clear c44b0);(try clear c46);(try clear c47);(try clear c47b0);(try clear c47b1);(try clear c48);(try clear c48b0);(try clear c48b1);(try clear c49);(try clear c49b0);(try clear c49b1);(try clear c50);(try clear c50b0);(try clear c50b1);(try clear c51);(try clear c51b0);(try clear c51b1);(try clear c52);(try clear c52b0);(try clear c52b1);(try clear c53);(try clear c53b0);(try clear c53b1);(try clear c54);(try clear c54b0);(try clear c54b1);(try clear c55);(try clear p64);(try clear c71);(try clear c71b0);(try clear c71b1);(try clear c71b2);(try clear c73);(try clear c74);(try clear c74b0);(try clear c74b1);(try clear c74b2);(try clear c76);(try clear c77);(try clear c77b0);(try clear c77b1);(try clear c77b2);(try clear c79);(try clear c80);(try clear c80b0);(try clear c80b1);(try clear c80b2);(try clear c81);(try clear c81b0);(try clear c81b1);(try clear c82);(try clear c82b0);(try clear c82b1);(try clear c82b2);(try clear c83);(try clear c83b0);(try clear c83b1);(try clear c84);(try clear c84b0);(try clear c84b1);(try clear c84b2);(try clear c85);(try clear c85b0);(try clear c85b1);(try clear c86);(try clear c86b0);(try clear c86b1);(try clear c86b2);(try clear c87);(try clear c87b0);(try clear c87b1);(try clear c87b2);(try clear c88);(try clear c88b0);(try clear c88b1);(try clear c88b2);(try clear c105);(try clear c106);(try clear c106b0);(try clear c106b1);(try clear c106b2);(try clear c107);(try clear c107b0);(try clear c108);(try clear c108b0);(try clear c109);(try clear c109b0);(try clear c110);(try clear c110b0);(try clear c110b1);(try clear c111)
                             (try clear c111b0);(try clear c111b1);(try clear c112);(try clear c112b0);(try clear c113);(try clear c113b0);(try clear c113b1);(try clear c114);(try clear c114b0);(try clear c115);(try clear c115b0);(try clear c117);(try clear c117b0);(try clear c118);(try clear c118b0);(try clear c119);(try clear c119b0);(try clear c119b1);(try clear c120);(try clear c120b0);(try clear c122);(try clear c123);(try clear c123b0);(try clear c123b1);(try clear c124);(try clear c124b0);(try clear c124b1);(try clear c126);(try clear c127);(try clear c127b0);(try clear c127b1);(try clear c128);(try clear c128b0);(try clear c128b1);(try clear c130);(try clear c130b0);(try clear c131);(try clear c131b0);(try clear c134);(try clear c134b0);(try clear c134b1);(try clear c134b2);(try clear hx372_0);(try clear hx379_0);(try clear hx380_0);(try clear hx381_0);(try clear hx382_0);(try clear hx383_0);(try clear hx384_0);(try clear hx385_0);(try clear hx389_0);(try clear hx390_0);(try clear hx394_0);(try clear p2);(try clear p3);(try clear p37);(try clear p372);(try clear p379);(try clear p38);(try clear p380);(try clear p381);(try clear p382);(try clear p383);(try clear p384);(try clear p385);(try clear p389);(try clear p39);(try clear p390);(try clear p394);(try clear p6);(try clear p64);(try clear q3);(try clear q37);(try clear q372);(try clear q379);(try clear q38);(try clear q380);(try clear q381);(try clear q382);(try clear q383);(try clear q384);(try clear q385);(try clear q389);(try clear q39);(try clear q390);(try clear q394)
                             obtain ⟨x543_7, rfl, HA, HK7, HO_34, HO_541, HB⟩ := hrel
                             cases gk with
                             | zero => exact absurd HA.out (by simp [laws_FnHousesBalance.l2])
                             | succ k7 =>
                              have H := HA.out
                              clear HA
                              simp only [laws_FnHousesBalance.l2] at H
                              by_cases c135 : x543_7 < (t332.length : Int)
                              · rw [if_pos c135] at H
                                have c135b0 : decide (x543_7 < (t332.length : Int)) = true := decide_eq_true c135
                                clear c135
                                by_cases c136 : 0 ≤ x543_7
                                rotate_left
                                · exact none_ (if_neg c136) H
                                rw [if_pos c136] at H
                                have c136b0 : decide (0 ≤ x543_7) = true := decide_eq_true c136
                                clear c136
                                by_cases c137 : x543_7 < (t332.length : Int)
                                rotate_left
                                · exact none_ (if_neg c137) H
                                rw [if_pos c137] at H
                                have c137b0 : decide (x543_7 < (t332.length : Int)) = true := decide_eq_true c137
                                clear c137
                                by_cases c138 : ((rd_L2 t332 x543_7).length : Int) = 2
                                rotate_left
                                · exact dead_ (if_neg c138) H hr_
                                rw [if_pos c138] at H
                                have c138b0 : (((rd_L2 t332 x543_7).length : Int) == 2) = true := beq_iff_eq.mpr c138
                                have c138b1 : (((rd_L2 t332 x543_7).length : Int) != 2) = false := bne_eq_false_iff_eq.mpr c138
                                clear c138
                                by_cases c139 : 0 < ((rd_L2 t332 x543_7).length : Int)
                                rotate_left
                                · exact none_ (if_neg c139) H
                                rw [if_pos c139] at H
                                have c139b0 : decide (0 < ((rd_L2 t332 x543_7).length : Int)) = true := decide_eq_true c139
                                have c139b1 : decide (0 < (rd_L2 t332 x543_7).length) = true := decide_eq_true (by omega)
                                clear c139
                                by_cases c140 : (Int.tmod (rd (rd_L2 t332 x543_7) 0) 2) = 1
                                rotate_left
                                · exact dead_ (if_neg c140) H hr_
                                rw [if_pos c140] at H
                                have c140b0 : ((Int.tmod (rd (rd_L2 t332 x543_7) 0) 2) == 1) = true := beq_iff_eq.mpr c140
                                have c140b1 : ((Int.tmod (rd (rd_L2 t332 x543_7) 0) 2) != 1) = false := bne_eq_false_iff_eq.mpr c140
                                clear c140
                                by_cases c141 : 1 < ((rd_L2 t332 x543_7).length : Int)
                                rotate_left
                                · exact none_ (if_neg c141) H
                                rw [if_pos c141] at H
                                have c141b0 : decide (1 < ((rd_L2 t332 x543_7).length : Int)) = true := decide_eq_true c141
                                have c141b1 : decide (1 < (rd_L2 t332 x543_7).length) = true := decide_eq_true (by omega)
                                clear c141
                                by_cases c142 : (Int.tmod (rd (rd_L2 t332 x543_7) 1) 2) = 1
                                rotate_left
                                · exact dead_ (if_neg c142) H hr_
                                rw [if_pos c142] at H
                                have c142b0 : ((Int.tmod (rd (rd_L2 t332 x543_7) 1) 2) == 1) = true := beq_iff_eq.mpr c142
                                have c142b1 : ((Int.tmod (rd (rd_L2 t332 x543_7) 1) 2) != 1) = false := bne_eq_false_iff_eq.mpr c142
                                clear c142
                                by_cases c143 : (rd (rd_L2 t332 x543_7) 1) > t323
                                · exact dead_ (if_pos c143) H hr_
                                rw [if_neg c143] at H
                                have c143b0 : decide (t323 < (rd (rd_L2 t332 x543_7) 1)) = false := decide_eq_false c143
                                clear c143
                                by_cases c144 : x543_7 > 0
                                · rw [if_pos c144] at H
                                  have c144b0 : decide (0 < x543_7) = true := decide_eq_true c144
                                  clear c144
                                  obtain ⟨ji145, hji145⟩ : ∃ j_ : Int, (wrap64 (x543_7 - 1)) = j_ := ⟨_, rfl⟩
                                  replace H : (if 0 ≤ (ji145) then (if (ji145) < (t332.length : Int) then (if 1 < ((rd_L2 t332 (ji145)).length : Int) then (if (rd (rd_L2 t332 (ji145)) 1) ≥ (rd (rd_L2 t332 x543_7) 1) then (some false) else (if (rd (rd_L2 t332 x543_7) 0) > 1 then ((impl_SumOfHouses.f 1 (wrap64 ((rd (rd_L2 t332 x543_7) 0) - 2)) 2).bind fun bt413 => (if (rd (rd_L2 t332 x543_7) 1) > (rd (rd_L2 t332 x543_7) 0) then ((impl_SumOfHouses.f (wrap64 ((rd (rd_L2 t332 x543_7) 0) + 2)) (rd (rd_L2 t332 x543_7) 1) 2).bind fun bt419 => (if bt419.2 = true then (if bt413.2 = true then (if bt413.1 = bt419.1 then (laws_FnHousesBalance.l2 k7 t323 t332 t348 t349 t350 t351 t352 t355 t359 t360 t361 t362 t363 t332 (t332.length : Int) (wrap64 (x543_7 + 1))) else (some false)) else (some false)) else (some false))) else (if bt413.2 = true then (if bt413.1 = 0 then (laws_FnHousesBalance.l2 k7 t323 t332 t348 t349 t350 t351 t352 t355 t359 t360 t361 t362 t363 t332 (t332.length : Int) (wrap64 (x543_7 + 1))) else (some false)) else (some false)))) else (laws_FnHousesBalance.l2 k7 t323 t332 t348 t349 t350 t351 t352 t355 t359 t360 t361 t362 t363 t332 (t332.length : Int) (wrap64 (x543_7 + 1))))) else (none)) else (none)) else (none)) = some r := by first | (rw [hji145] at H; exact H) | (simp only [hji145] at H ⊢; exact H)
                                  have hji145w : (IntKind.i64.wrap (x543_7 - 1)) = ji145 := (i64_w _).trans hji145
                                  by_cases c146 : 0 ≤ (ji145)
                                  rotate_left
                                  · exact none_ (if_neg c146) H
                                  rw [if_pos c146] at H
                                  have c146b0 : decide (0 ≤ (ji145)) = true := decide_eq_true c146
                                  clear c146
                                  by_cases c147 : (ji145) < (t332.length : Int)
                                  rotate_left
                                  · exact none_ (if_neg c147) H
                                  rw [if_pos c147] at H
                                  have c147b0 : decide ((ji145) < (t332.length : Int)) = true := decide_eq_true c147
                                  clear c147
                                  by_cases c148 : 1 < ((rd_L2 t332 (ji145)).length : Int)
                                  rotate_left
                                  · exact none_ (if_neg c148) H
                                  rw [if_pos c148] at H
                                  have c148b0 : decide (1 < ((rd_L2 t332 (ji145)).length : Int)) = true := decide_eq_true c148
                                  have c148b1 : decide (1 < (rd_L2 t332 (ji145)).length) = true := decide_eq_true (by omega)
                                  clear c148
                                  by_cases c149 : (rd (rd_L2 t332 (ji145)) 1) ≥ (rd (rd_L2 t332 x543_7) 1)
                                  · exact dead_ (if_pos c149) H hr_
                                  rw [if_neg c149] at H
                                  have c149b0 : decide ((rd (rd_L2 t332 x543_7) 1) ≤ (rd (rd_L2 t332 (ji145)) 1)) = false := decide_eq_false c149
                                  clear c149
                                  by_cases c150 : (rd (rd_L2 t332 x543_7) 0) > 1
                                  · rw [if_pos c150] at H
                                    have c150b0 : decide (1 < (rd (rd_L2 t332 x543_7) 0)) = true := decide_eq_true c150
                                    clear c150
                                    replace H := Option.bind_eq_some_iff.mp H
                                    obtain ⟨⟨t413, t414⟩, A1510, H⟩ := H
                                    dsimp only at H
                                    have A151 := Aside0.mk A1510
                                    clear A1510
                                    by_cases c152 : (rd (rd_L2 t332 x543_7) 1) > (rd (rd_L2 t332 x543_7) 0)
                                    · rw [if_pos c152] at H
                                      have c152b0 : decide ((rd (rd_L2 t332 x543_7) 0) < (rd (rd_L2 t332 x543_7) 1)) = true := decide_eq_true c152
                                      clear c152
                                      replace H := Option.bind_eq_some_iff.mp H
                                      obtain ⟨⟨t419, t420⟩, A1530, H⟩ := H
                                      dsimp only at H
                                      have A153 := Aside0.mk A1530
                                      clear A1530
                                      by_cases c154 : t420 = true
                                      · subst c154
                                        rw [if_pos rfl] at H
                                        by_cases c155 : t414 = true
                                        · subst c155
                                          rw [if_pos rfl] at H
                                          by_cases c156 : t413 = t419
                                          rotate_left
                                          · exact dead_ (if_neg c156) H hr_
                                          rw [if_pos c156] at H
                                          have c156b0 : (t413 == t419) = true := beq_iff_eq.mpr c156
                                          have c156b1 : (t413 != t419) = false := bne_eq_false_iff_eq.mpr c156
                                          clear c156
                                          as_aux_lemma =>
                                           have H' := Aside0.mk H
                                           clear H
                                           have p398 : 0 ≤ (x543_7 : Int) := of_decide_eq_true z6_1_
                                           have q398 : x543_7 < (t332.length : Int) := of_decide_eq_true z6_1_
                                           obtain ⟨ad398, A398_0, c398_0, e398, hx398_0, hl398_0, hi398_0⟩ := at_L2 (Kd.S_reads' HO_541.out).2.2 x543_7 p398 q398
                                           cases e398
                                           obtain ⟨ce398, hce398, hMe398, hcc398⟩ := Kd.S_get HO_541.out [] x543_7 p398 z6_12_
                                           obtain ⟨ve398_0, rfl, ge398_0⟩ := hMe398
                                           have hv398_0 := hcc398 0 _ rfl
                                           rw [Nat.add_zero, show ((Kd.slice 3 (Kd.int .i64))).sz = 1 from rfl, Nat.mul_one] at hv398_0
                                           replace hv398_0 := Option.some.inj (hv398_0.symm.trans hx398_0)
                                           rw [hv398_0] at ge398_0
                                           have HL398_0 := Aside0.mk (show Kd.R (Kd.int .i64) 3 _ _ _ _ (rd_L2 t332 x543_7) from ge398_0)
                                           clear hv398_0 ge398_0
                                           clear hcc398 hce398
                                           have HR398_0 := Aside0.mk hi398_0
                                           have HC398_0 := Aside0.mk hl398_0
                                           clear hi398_0 hl398_0
                                           replace p398 := eq_true p398
                                           replace q398 := eq_true q398
                                           have p405 : 0 ≤ (0 : Int) := (by omega)
                                           have q405 : 0 < ((rd_L2 t332 x543_7).length : Int) := of_decide_eq_true z6_1_
                                           obtain ⟨ad405, e405, hx405_0⟩ := Kd.at_int z6_0_ 0 p405 q405
                                           cases e405
                                           have qi405 : (0 < (rd_L2 t332 x543_7).length) = True := eq_true (by omega)
                                           (try rw [show ((0 : Int)).toNat = 0 from rfl] at hx405_0)
                                           (try rw [Addr.add_zero'] at hx405_0)
                                           replace p405 := eq_true p405
                                           replace q405 := eq_true q405
                                           have p406 : 0 ≤ (1 : Int) := (by omega)
                                           have q406 : 1 < ((rd_L2 t332 x543_7).length : Int) := of_decide_eq_true z6_1_
                                           obtain ⟨ad406, e406, hx406_0⟩ := Kd.at_int z6_0_ 1 p406 q406
                                           obtain rfl : ad405 = ad406 := (by injection e406)
                                           (try simp only [show (1 : Int).toNat = 1 from rfl, Nat.reduceMul, Nat.reduceEqDiff, Go.Addr.add, ↓reduceIte] at hx406_0)
                                           have qi406 : (1 < (rd_L2 t332 x543_7).length) = True := eq_true (by omega)
                                           (try rw [show ((1 : Int)).toNat = 1 from rfl] at hx406_0)
                                           replace p406 := eq_true p406
                                           replace q406 := eq_true q406
                                           have p407 : 0 ≤ (1 : Int) := (by omega)
                                           have q407 : 1 < ((rd_L2 t332 x543_7).length : Int) := of_decide_eq_true z6_1_
                                           obtain ⟨ad407, e407, hx407_0⟩ := Kd.at_int z6_0_ 1 p407 q407
                                           obtain rfl : ad405 = ad407 := (by injection e407)
                                           (try simp only [show (1 : Int).toNat = 1 from rfl, Nat.reduceMul, Nat.reduceEqDiff, Go.Addr.add, ↓reduceIte] at hx407_0)
                                           have qi407 : (1 < (rd_L2 t332 x543_7).length) = True := eq_true (by omega)
                                           (try rw [show ((1 : Int)).toNat = 1 from rfl] at hx407_0)
                                           replace p407 := eq_true p407
                                           replace q407 := eq_true q407
                                           have p408 : 0 ≤ ((ji145) : Int) := of_decide_eq_true z6_1_
                                           have q408 : (ji145) < (t332.length : Int) := of_decide_eq_true z6_1_
                                           obtain ⟨ad408, A408_0, c408_0, e408, hx408_0, hl408_0, hi408_0⟩ := at_L2 (Kd.S_reads' HO_34.out).2.2 (ji145) p408 q408
                                           obtain rfl : ad398 = ad408 := (by injection e408)
                                           obtain ⟨ce408, hce408, hMe408, hcc408⟩ := Kd.S_get HO_34.out [] (ji145) p408 (by first | exact q408 | exact of_decide_eq_true z6_1_ | (have e_ := (Kd.S_reads' HO_34.out).1; omega))
                                           obtain ⟨ve408_0, rfl, ge408_0⟩ := hMe408
                                           have hv408_0 := hcc408 0 _ rfl
                                           rw [Nat.add_zero, show ((Kd.slice 3 (Kd.int .i64))).sz = 1 from rfl, Nat.mul_one] at hv408_0
                                           replace hv408_0 := Option.some.inj (hv408_0.symm.trans hx408_0)
                                           rw [hv408_0] at ge408_0
                                           have HL408_0 := Aside0.mk (show Kd.R (Kd.int .i64) 3 _ _ _ _ (rd_L2 t332 (ji145)) from ge408_0)
                                           clear hv408_0 ge408_0
                                           clear hcc408 hce408
                                           have HR408_0 := Aside0.mk hi408_0
                                           have HC408_0 := Aside0.mk hl408_0
                                           clear hi408_0 hl408_0
                                           replace p408 := eq_true p408
                                           replace q408 := eq_true q408
                                           have p409 : 0 ≤ (1 : Int) := (by omega)
                                           have q409 : 1 < ((rd_L2 t332 (ji145)).length : Int) := of_decide_eq_true z6_1_
                                           obtain ⟨ad409, e409, hx409_0⟩ := Kd.at_int z6_10_ 1 p409 q409
                                           cases e409
                                           (try simp only [show (1 : Int).toNat = 1 from rfl, Nat.reduceMul, Nat.reduceEqDiff, Go.Addr.add, ↓reduceIte] at hx409_0)
                                           have qi409 : (1 < (rd_L2 t332 (ji145)).length) = True := eq_true (by omega)
                                           (try rw [show ((1 : Int)).toNat = 1 from rfl] at hx409_0)
                                           replace p409 := eq_true p409
                                           replace q409 := eq_true q409
                                           have p410 : 0 ≤ (1 : Int) := (by omega)
                                           have q410 : 1 < ((rd_L2 t332 x543_7).length : Int) := of_decide_eq_true z6_1_
                                           obtain ⟨ad410, e410, hx410_0⟩ := Kd.at_int z6_0_ 1 p410 q410
                                           obtain rfl : ad405 = ad410 := (by injection e410)
                                           (try simp only [show (1 : Int).toNat = 1 from rfl, Nat.reduceMul, Nat.reduceEqDiff, Go.Addr.add, ↓reduceIte] at hx410_0)
                                           have qi410 : (1 < (rd_L2 t332 x543_7).length) = True := eq_true (by omega)
                                           (try rw [show ((1 : Int)).toNat = 1 from rfl] at hx410_0)
                                           replace p410 := eq_true p410
                                           replace q410 := eq_true q410
                                           have p411 : 0 ≤ (0 : Int) := (by omega)
                                           have q411 : 0 < ((rd_L2 t332 x543_7).length : Int) := of_decide_eq_true z6_1_
                                           obtain ⟨ad411, e411, hx411_0⟩ := Kd.at_int z6_0_ 0 p411 q411
                                           obtain rfl : ad405 = ad411 := (by injection e411)
                                           have qi411 : (0 < (rd_L2 t332 x543_7).length) = True := eq_true (by omega)
                                           (try rw [show ((0 : Int)).toNat = 0 from rfl] at hx411_0)
                                           (try rw [Addr.add_zero'] at hx411_0)
                                           replace p411 := eq_true p411
                                           replace q411 := eq_true q411
                                           have p412 : 0 ≤ (0 : Int) := (by omega)
                                           have q412 : 0 < ((rd_L2 t332 x543_7).length : Int) := of_decide_eq_true z6_1_
                                           obtain ⟨ad412, e412, hx412_0⟩ := Kd.at_int z6_0_ 0 p412 q412
                                           obtain rfl : ad405 = ad412 := (by injection e412)
                                           have qi412 : (0 < (rd_L2 t332 x543_7).length) = True := eq_true (by omega)
                                           (try rw [show ((0 : Int)).toNat = 0 from rfl] at hx412_0)
                                           (try rw [Addr.add_zero'] at hx412_0)
                                           replace p412 := eq_true p412
                                           replace q412 := eq_true q412
                                           go_wp2_with (first | (go_at_call 19; (with_reducible refine (impl_SumOfHouses.calls 1 (wrap64 ((rd (rd_L2 t332 x543_7) 0) - 2)) 2 t413 true _ A151.out).mono ?_); rintro e w' ⟨rfl, ⟨nd, rfl⟩⟩; (try first | exact ⟨rfl, _, World.drewN_drewN _ _ _⟩ | exact ⟨rfl, _, Eq.trans (World.drewN_drewN _ _ _) (congrArg (World.drewN _) (Nat.add_assoc _ _ _))⟩); have p415 : 0 ≤ (1 : Int) := (by omega); have q415 : 1 < ((rd_L2 t332 x543_7).length : Int) := of_decide_eq_true z6_1_; obtain ⟨ad415, e415, hx415_0⟩ := Kd.at_int z6_0_ 1 p415 q415; obtain rfl : ad405 = ad415 := (by injection e415); (try simp only [show (1 : Int).toNat = 1 from rfl, Nat.reduceMul, Nat.reduceEqDiff, Go.Addr.add, ↓reduceIte] at hx415_0); have qi415 : (1 < (rd_L2 t332 x543_7).length) = True := eq_true (by omega); (try rw [show ((1 : Int)).toNat = 1 from rfl] at hx415_0); replace p415 := eq_true p415; replace q415 := eq_true q415; have p416 : 0 ≤ (0 : Int) := (by omega); have q416 : 0 < ((rd_L2 t332 x543_7).length : Int) := of_decide_eq_true z6_1_; obtain ⟨ad416, e416, hx416_0⟩ := Kd.at_int z6_0_ 0 p416 q416; obtain rfl : ad405 = ad416 := (by injection e416); have qi416 : (0 < (rd_L2 t332 x543_7).length) = True := eq_true (by omega); (try rw [show ((0 : Int)).toNat = 0 from rfl] at hx416_0); (try rw [Addr.add_zero'] at hx416_0); replace p416 := eq_true p416; replace q416 := eq_true q416; have p417 : 0 ≤ (0 : Int) := (by omega); have q417 : 0 < ((rd_L2 t332 x543_7).length : Int) := of_decide_eq_true z6_1_; obtain ⟨ad417, e417, hx417_0⟩ := Kd.at_int z6_0_ 0 p417 q417; obtain rfl : ad405 = ad417 := (by injection e417); have qi417 : (0 < (rd_L2 t332 x543_7).length) = True := eq_true (by omega); (try rw [show ((0 : Int)).toNat = 0 from rfl] at hx417_0); (try rw [Addr.add_zero'] at hx417_0); replace p417 := eq_true p417; replace q417 := eq_true q417; have p418 : 0 ≤ (1 : Int) := (by omega); have q418 : 1 < ((rd_L2 t332 x543_7).length : Int) := of_decide_eq_true z6_1_; obtain ⟨ad418, e418, hx418_0⟩ := Kd.at_int z6_0_ 1 p418 q418; obtain rfl : ad405 = ad418 := (by injection e418); (try simp only [show (1 : Int).toNat = 1 from rfl, Nat.reduceMul, Nat.reduceEqDiff, Go.Addr.add, ↓reduceIte] at hx418_0); have qi418 : (1 < (rd_L2 t332 x543_7).length) = True := eq_true (by omega); (try rw [show ((1 : Int)).toNat = 1 from rfl] at hx418_0); replace p418 := eq_true p418; replace q418 := eq_true q418) | (go_at_call 19; (with_reducible refine (impl_SumOfHouses.calls (wrap64 ((rd (rd_L2 t332 x543_7) 0) + 2)) (rd (rd_L2 t332 x543_7) 1) 2 t419 true _ A153.out).mono ?_); rintro e w' ⟨rfl, ⟨nd, rfl⟩⟩; (try first | exact ⟨rfl, _, World.drewN_drewN _ _ _⟩ | exact ⟨rfl, _, Eq.trans (World.drewN_drewN _ _ _) (congrArg (World.drewN _) (Nat.add_assoc _ _ _))⟩)))
                                           repeat (go_quiet (first | (go_at_call 19; (with_reducible refine (impl_SumOfHouses.calls 1 (wrap64 ((rd (rd_L2 t332 x543_7) 0) - 2)) 2 t413 true _ A151.out).mono ?_); rintro e w' ⟨rfl, ⟨nd, rfl⟩⟩; (try first | exact ⟨rfl, _, World.drewN_drewN _ _ _⟩ | exact ⟨rfl, _, Eq.trans (World.drewN_drewN _ _ _) (congrArg (World.drewN _) (Nat.add_assoc _ _ _))⟩); have p415 : 0 ≤ (1 : Int) := (by omega); have q415 : 1 < ((rd_L2 t332 x543_7).length : Int) := of_decide_eq_true z6_1_; obtain ⟨ad415, e415, hx415_0⟩ := Kd.at_int z6_0_ 1 p415 q415; obtain rfl : ad405 = ad415 := (by injection e415); (try simp only [show (1 : Int).toNat = 1 from rfl, Nat.reduceMul, Nat.reduceEqDiff, Go.Addr.add, ↓reduceIte] at hx415_0); have qi415 : (1 < (rd_L2 t332 x543_7).length) = True := eq_true (by omega); (try rw [show ((1 : Int)).toNat = 1 from rfl] at hx415_0); replace p415 := eq_true p415; replace q415 := eq_true q415; have p416 : 0 ≤ (0 : Int) := (by omega); have q416 : 0 < ((rd_L2 t332 x543_7).length : Int) := of_decide_eq_true z6_1_; obtain ⟨ad416, e416, hx416_0⟩ := Kd.at_int z6_0_ 0 p416 q416; obtain rfl : ad405 = ad416 := (by injection e416); have qi416 : (0 < (rd_L2 t332 x543_7).length) = True := eq_true (by omega); (try rw [show ((0 : Int)).toNat = 0 from rfl] at hx416_0); (try rw [Addr.add_zero'] at hx416_0); replace p416 := eq_true p416; replace q416 := eq_true q416; have p417 : 0 ≤ (0 : Int) := (by omega); have q417 : 0 < ((rd_L2 t332 x543_7).length : Int) := of_decide_eq_true z6_1_; obtain ⟨ad417, e417, hx417_0⟩ := Kd.at_int z6_0_ 0 p417 q417; obtain rfl : ad405 = ad417 := (by injection e417); have qi417 : (0 < (rd_L2 t332 x543_7).length) = True := eq_true (by omega); (try rw [show ((0 : Int)).toNat = 0 from rfl] at hx417_0); (try rw [Addr.add_zero'] at hx417_0); replace p417 := eq_true p417; replace q417 := eq_true q417; have p418 : 0 ≤ (1 : Int) := (by omega); have q418 : 1 < ((rd_L2 t332 x543_7).length : Int) := of_decide_eq_true z6_1_; obtain ⟨ad418, e418, hx418_0⟩ := Kd.at_int z6_0_ 1 p418 q418; obtain rfl : ad405 = ad418 := (by injection e418); (try simp only [show (1 : Int).toNat = 1 from rfl, Nat.reduceMul, Nat.reduceEqDiff, Go.Addr.add, ↓reduceIte] at hx418_0); have qi418 : (1 < (rd_L2 t332 x543_7).length) = True := eq_true (by omega); (try rw [show ((1 : Int)).toNat = 1 from rfl] at hx418_0); replace p418 := eq_true p418; replace q418 := eq_true q418) | (go_at_call 19; (with_reducible refine (impl_SumOfHouses.calls (wrap64 ((rd (rd_L2 t332 x543_7) 0) + 2)) (rd (rd_L2 t332 x543_7) 1) 2 t419 true _ A153.out).mono ?_); rintro e w' ⟨rfl, ⟨nd, rfl⟩⟩; (try first | exact ⟨rfl, _, World.drewN_drewN _ _ _⟩ | exact ⟨rfl, _, Eq.trans (World.drewN_drewN _ _ _) (congrArg (World.drewN _) (Nat.add_assoc _ _ _))⟩))); try go_wp2_with (first | (go_at_call 19; (with_reducible refine (impl_SumOfHouses.calls 1 (wrap64 ((rd (rd_L2 t332 x543_7) 0) - 2)) 2 t413 true _ A151.out).mono ?_); rintro e w' ⟨rfl, ⟨nd, rfl⟩⟩; (try first | exact ⟨rfl, _, World.drewN_drewN _ _ _⟩ | exact ⟨rfl, _, Eq.trans (World.drewN_drewN _ _ _) (congrArg (World.drewN _) (Nat.add_assoc _ _ _))⟩); have p415 : 0 ≤ (1 : Int) := (by omega); have q415 : 1 < ((rd_L2 t332 x543_7).length : Int) := of_decide_eq_true z6_1_; obtain ⟨ad415, e415, hx415_0⟩ := Kd.at_int z6_0_ 1 p415 q415; obtain rfl : ad405 = ad415 := (by injection e415); (try simp only [show (1 : Int).toNat = 1 from rfl, Nat.reduceMul, Nat.reduceEqDiff, Go.Addr.add, ↓reduceIte] at hx415_0); have qi415 : (1 < (rd_L2 t332 x543_7).length) = True := eq_true (by omega); (try rw [show ((1 : Int)).toNat = 1 from rfl] at hx415_0); replace p415 := eq_true p415; replace q415 := eq_true q415; have p416 : 0 ≤ (0 : Int) := (by omega); have q416 : 0 < ((rd_L2 t332 x543_7).length : Int) := of_decide_eq_true z6_1_; obtain ⟨ad416, e416, hx416_0⟩ := Kd.at_int z6_0_ 0 p416 q416; obtain rfl : ad405 = ad416 := (by injection e416); have qi416 : (0 < (rd_L2 t332 x543_7).length) = True := eq_true (by omega); (try rw [show ((0 : Int)).toNat = 0 from rfl] at hx416_0); (try rw [Addr.add_zero'] at hx416_0); replace p416 := eq_true p416; replace q416 := eq_true q416; have p417 : 0 ≤ (0 : Int) := (by omega); have q417 : 0 < ((rd_L2 t332 x543_7).length : Int) := of_decide_eq_true z6_1_; obtain ⟨ad417, e417, hx417_0⟩ := Kd.at_int z6_0_ 0 p417 q417; obtain rfl : ad405 = ad417 := (by injection e417); have qi417 : (0 < (rd_L2 t332 x543_7).length) = True := eq_true (by omega); (try rw [show ((0 : Int)).toNat = 0 from rfl] at hx417_0); (try rw [Addr.add_zero'] at hx417_0); replace p417 := eq_true p417; replace q417 := eq_true q417; have p418 : 0 ≤ (1 : Int) := (by omega); have q418 : 1 < ((rd_L2 t332 x543_7).length : Int) := of_decide_eq_true z6_1_; obtain ⟨ad418, e418, hx418_0⟩ := Kd.at_int z6_0_ 1 p418 q418; obtain rfl : ad405 = ad418 := (by injection e418); (try simp only [show (1 : Int).toNat = 1 from rfl, Nat.reduceMul, Nat.reduceEqDiff, Go.Addr.add, ↓reduceIte] at hx418_0); have qi418 : (1 < (rd_L2 t332 x543_7).length) = True := eq_true (by omega); (try rw [show ((1 : Int)).toNat = 1 from rfl] at hx418_0); replace p418 := eq_true p418; replace q418 := eq_true q418) | (go_at_call 19; (with_reducible refine (impl_SumOfHouses.calls (wrap64 ((rd (rd_L2 t332 x543_7) 0) + 2)) (rd (rd_L2 t332 x543_7) 1) 2 t419 true _ A153.out).mono ?_); rintro e w' ⟨rfl, ⟨nd, rfl⟩⟩; (try first | exact ⟨rfl, _, World.drewN_drewN _ _ _⟩ | exact ⟨rfl, _, Eq.trans (World.drewN_drewN _ _ _) (congrArg (World.drewN _) (Nat.add_assoc _ _ _))⟩))))
                                           go_roundg k7
                                           case measure => have := HJ12.out; have := HJ27.out; have := HJ37.out; have := HJ44.out; have := HK5.out; have := HJ128.out; have := HK7.out; omega
                                           case rel => exact ⟨(wrap64 (x543_7 + 1)), z6_7_, H', ⟨by have := HJ12.out; have := HJ27.out; have := HJ37.out; have := HJ44.out; have := HK5.out; have := HJ128.out; have := HK7.out; omega⟩, ⟨by (with_reducible repeat (first | apply Kd.S_alloc | apply Kd.S_drewN | apply Kd.S_drew)); exact HO_34.out⟩, ⟨by (with_reducible repeat (first | apply Kd.S_alloc | apply Kd.S_drewN | apply Kd.S_drew)); exact HO_541.out⟩, ⟨by repeat (first | (with_reducible first | exact HB.out | apply below_alloc | apply pw_below_drewN | apply below_drew1) | exact HB.out)⟩⟩
                                        replace c155 := Bool.eq_false_iff.mpr c155
                                        subst c155
                                        rw [if_neg (show ¬ (false = true) by decide)] at H
                                        as_aux_lemma =>
                                         exact Bool.noConfusion ((Option.some.inj H).trans hr_.out)
                                      replace c154 := Bool.eq_false_iff.mpr c154
                                      subst c154
                                      rw [if_neg (show ¬ (false = true) by decide)] at H
                                      as_aux_lemma =>
                                       exact Bool.noConfusion ((Option.some.inj H).trans hr_.out)
                                    rw [if_neg c152] at H
                                    have c152b0 : decide ((rd (rd_L2 t332 x543_7) 0) < (rd (rd_L2 t332 x543_7) 1)) = false := decide_eq_false c152
                                    clear c152
                                    by_cases c157 : t414 = true
                                    · subst c157
                                      rw [if_pos rfl] at H
                                      by_cases c158 : t413 = 0
                                      rotate_left
                                      · exact dead_ (if_neg c158) H hr_
                                      rw [if_pos c158] at H
                                      have c158b0 : (t413 == 0) = true := beq_iff_eq.mpr c158
                                      have c158b1 : (t413 != 0) = false := bne_eq_false_iff_eq.mpr c158
                                      clear c158
                                      as_aux_lemma =>
                                       have H' := Aside0.mk H
                                       clear H
                                       have p398 : 0 ≤ (x543_7 : Int) := of_decide_eq_true z6_1_
                                       have q398 : x543_7 < (t332.length : Int) := of_decide_eq_true z6_1_
                                       obtain ⟨ad398, A398_0, c398_0, e398, hx398_0, hl398_0, hi398_0⟩ := at_L2 (Kd.S_reads' HO_541.out).2.2 x543_7 p398 q398
                                       cases e398
                                       obtain ⟨ce398, hce398, hMe398, hcc398⟩ := Kd.S_get HO_541.out [] x543_7 p398 z6_12_
                                       obtain ⟨ve398_0, rfl, ge398_0⟩ := hMe398
                                       have hv398_0 := hcc398 0 _ rfl
                                       rw [Nat.add_zero, show ((Kd.slice 3 (Kd.int .i64))).sz = 1 from rfl, Nat.mul_one] at hv398_0
                                       replace hv398_0 := Option.some.inj (hv398_0.symm.trans hx398_0)
                                       rw [hv398_0] at ge398_0
                                       have HL398_0 := Aside0.mk (show Kd.R (Kd.int .i64) 3 _ _ _ _ (rd_L2 t332 x543_7) from ge398_0)
                                       clear hv398_0 ge398_0
                                       clear hcc398 hce398
                                       have HR398_0 := Aside0.mk hi398_0
                                       have HC398_0 := Aside0.mk hl398_0
                                       clear hi398_0 hl398_0
                                       replace p398 := eq_true p398
                                       replace q398 := eq_true q398
                                       have p405 : 0 ≤ (0 : Int) := (by omega)
                                       have q405 : 0 < ((rd_L2 t332 x543_7).length : Int) := of_decide_eq_true z6_1_
                                       obtain ⟨ad405, e405, hx405_0⟩ := Kd.at_int z6_0_ 0 p405 q405
                                       cases e405
                                       have qi405 : (0 < (rd_L2 t332 x543_7).length) = True := eq_true (by omega)
                                       (try rw [show ((0 : Int)).toNat = 0 from rfl] at hx405_0)
                                       (try rw [Addr.add_zero'] at hx405_0)
                                       replace p405 := eq_true p405
                                       replace q405 := eq_true q405
                                       have p406 : 0 ≤ (1 : Int) := (by omega)
                                       have q406 : 1 < ((rd_L2 t332 x543_7).length : Int) := of_decide_eq_true z6_1_
                                       obtain ⟨ad406, e406, hx406_0⟩ := Kd.at_int z6_0_ 1 p406 q406
                                       obtain rfl : ad405 = ad406 := (by injection e406)
                                       (try simp only [show (1 : Int).toNat = 1 from rfl, Nat.reduceMul, Nat.reduceEqDiff, Go.Addr.add, ↓reduceIte] at hx406_0)
                                       have qi406 : (1 < (rd_L2 t332 x543_7).length) = True := eq_true (by omega)
                                       (try rw [show ((1 : Int)).toNat = 1 from rfl] at hx406_0)
                                       replace p406 := eq_true p406
                                       replace q406 := eq_true q406
                                       have p407 : 0 ≤ (1 : Int) := (by omega)
                                       have q407 : 1 < ((rd_L2 t332 x543_7).length : Int) := of_decide_eq_true z6_1_
                                       obtain ⟨ad407, e407, hx407_0⟩ := Kd.at_int z6_0_ 1 p407 q407
                                       obtain rfl : ad405 = ad407 := (by injection e407)
                                       (try simp only [show (1 : Int).toNat = 1 from rfl, Nat.reduceMul, Nat.reduceEqDiff, Go.Addr.add, ↓reduceIte] at hx407_0)
                                       have qi407 : (1 < (rd_L2 t332 x543_7).length) = True := eq_true (by omega)
                                       (try rw [show ((1 : Int)).toNat = 1 from rfl] at hx407_0)
                                       replace p407 := eq_true p407
                                       replace q407 := eq_true q407
                                       have p408 : 0 ≤ ((ji145) : Int) := of_decide_eq_true z6_1_
                                       have q408 : (ji145) < (t332.length : Int) := of_decide_eq_true z6_1_
                                       obtain ⟨ad408, A408_0, c408_0, e408, hx408_0, hl408_0, hi408_0⟩ := at_L2 (Kd.S_reads' HO_34.out).2.2 (ji145) p408 q408
                                       obtain rfl : ad398 = ad408 := (by injection e408)
                                       obtain ⟨ce408, hce408, hMe408, hcc408⟩ := Kd.S_get HO_34.out [] (ji145) p408 (by first | exact q408 | exact of_decide_eq_true z6_1_ | (have e_ := (Kd.S_reads' HO_34.out).1; omega))
                                       obtain ⟨ve408_0, rfl, ge408_0⟩ := hMe408
                                       have hv408_0 := hcc408 0 _ rfl
                                       rw [Nat.add_zero, show ((Kd.slice 3 (Kd.int .i64))).sz = 1 from rfl, Nat.mul_one] at hv408_0
                                       replace hv408_0 := Option.some.inj (hv408_0.symm.trans hx408_0)
                                       rw [hv408_0] at ge408_0
                                       have HL408_0 := Aside0.mk (show Kd.R (Kd.int .i64) 3 _ _ _ _ (rd_L2 t332 (ji145)) from ge408_0)
                                       clear hv408_0 ge408_0
                                       clear hcc408 hce408
                                       have HR408_0 := Aside0.mk hi408_0
                                       have HC408_0 := Aside0.mk hl408_0
                                       clear hi408_0 hl408_0
                                       replace p408 := eq_true p408
                                       replace q408 := eq_true q408
                                       have p409 : 0 ≤ (1 : Int) := (by omega)
                                       have q409 : 1 < ((rd_L2 t332 (ji145)).length : Int) := of_decide_eq_true z6_1_
                                       obtain ⟨ad409, e409, hx409_0⟩ := Kd.at_int z6_10_ 1 p409 q409
                                       cases e409
                                       (try simp only [show (1 : Int).toNat = 1 from rfl, Nat.reduceMul, Nat.reduceEqDiff, Go.Addr.add, ↓reduceIte] at hx409_0)
                                       have qi409 : (1 < (rd_L2 t332 (ji145)).length) = True := eq_true (by omega)
                                       (try rw [show ((1 : Int)).toNat = 1 from rfl] at hx409_0)
                                       replace p409 := eq_true p409
                                       replace q409 := eq_true q409
                                       have p410 : 0 ≤ (1 : Int) := (by omega)
                                       have q410 : 1 < ((rd_L2 t332 x543_7).length : Int) := of_decide_eq_true z6_1_
                                       obtain ⟨ad410, e410, hx410_0⟩ := Kd.at_int z6_0_ 1 p410 q410
                                       obtain rfl : ad405 = ad410 := (by injection e410)
                                       (try simp only [show (1 : Int).toNat = 1 from rfl, Nat.reduceMul, Nat.reduceEqDiff, Go.Addr.add, ↓reduceIte] at hx410_0)
                                       have qi410 : (1 < (rd_L2 t332 x543_7).length) = True := eq_true (by omega)
                                       (try rw [show ((1 : Int)).toNat = 1 from rfl] at hx410_0)
                                       replace p410 := eq_true p410
                                       replace q410 := eq_true q410
                                       have p411 : 0 ≤ (0 : Int) := (by omega)
                                       have q411 : 0 < ((rd_L2 t332 x543_7).length : Int) := of_decide_eq_true z6_1_
                                       obtain ⟨ad411, e411, hx411_0⟩ := Kd.at_int z6_0_ 0 p411 q411
                                       obtain rfl : ad405 = ad411 := (by injection e411)
                                       have qi411 : (0 < (rd_L2 t332 x543_7).length) = True := eq_true (by omega)
                                       (try rw [show ((0 : Int)).toNat = 0 from rfl] at hx411_0)
                                       (try rw [Addr.add_zero'] at hx411_0)
                                       replace p411 := eq_true p411
                                       replace q411 := eq_true q411
                                       have p412 : 0 ≤ (0 : Int) := (by omega)
                                       have q412 : 0 < ((rd_L2 t332 x543_7).length : Int) := of_decide_eq_true z6_1_
                                       obtain ⟨ad412, e412, hx412_0⟩ := Kd.at_int z6_0_ 0 p412 q412
                                       obtain rfl : ad405 = ad412 := (by injection e412)
                                       have qi412 : (0 < (rd_L2 t332 x543_7).length) = True := eq_true (by omega)
                                       (try rw [show ((0 : Int)).toNat = 0 from rfl] at hx412_0)
                                       (try rw [Addr.add_zero'] at hx412_0)
                                       replace p412 := eq_true p412
                                       replace q412 := eq_true q412
                                       go_wp2_with (first | (go_at_call 19; (with_reducible refine (impl_SumOfHouses.calls 1 (wrap64 ((rd (rd_L2 t332 x543_7) 0) - 2)) 2 t413 true _ A151.out).mono ?_); rintro e w' ⟨rfl, ⟨nd, rfl⟩⟩; (try first | exact ⟨rfl, _, World.drewN_drewN _ _ _⟩ | exact ⟨rfl, _, Eq.trans (World.drewN_drewN _ _ _) (congrArg (World.drewN _) (Nat.add_assoc _ _ _))⟩); have p415 : 0 ≤ (1 : Int) := (by omega); have q415 : 1 < ((rd_L2 t332 x543_7).length : Int) := of_decide_eq_true z6_1_; obtain ⟨ad415, e415, hx415_0⟩ := Kd.at_int z6_0_ 1 p415 q415; obtain rfl : ad405 = ad415 := (by injection e415); (try simp only [show (1 : Int).toNat = 1 from rfl, Nat.reduceMul, Nat.reduceEqDiff, Go.Addr.add, ↓reduceIte] at hx415_0); have qi415 : (1 < (rd_L2 t332 x543_7).length) = True := eq_true (by omega); (try rw [show ((1 : Int)).toNat = 1 from rfl] at hx415_0); replace p415 := eq_true p415; replace q415 := eq_true q415; have p416 : 0 ≤ (0 : Int) := (by omega); have q416 : 0 < ((rd_L2 t332 x543_7).length : Int) := of_decide_eq_true z6_1_; obtain ⟨ad416, e416, hx416_0⟩ := Kd.at_int z6_0_ 0 p416 q416; obtain rfl : ad405 = ad416 := (by injection e416); have qi416 : (0 < (rd_L2 t332 x543_7).length) = True := eq_true (by omega); (try rw [show ((0 : Int)).toNat = 0 from rfl] at hx416_0); (try rw [Addr.add_zero'] at hx416_0); replace p416 := eq_true p416; replace q416 := eq_true q416))
                                       repeat (go_quiet (first | (go_at_call 19; (with_reducible refine (impl_SumOfHouses.calls 1 (wrap64 ((rd (rd_L2 t332 x543_7) 0) - 2)) 2 t413 true _ A151.out).mono ?_); rintro e w' ⟨rfl, ⟨nd, rfl⟩⟩; (try first | exact ⟨rfl, _, World.drewN_drewN _ _ _⟩ | exact ⟨rfl, _, Eq.trans (World.drewN_drewN _ _ _) (congrArg (World.drewN _) (Nat.add_assoc _ _ _))⟩); have p415 : 0 ≤ (1 : Int) := (by omega); have q415 : 1 < ((rd_L2 t332 x543_7).length : Int) := of_decide_eq_true z6_1_; obtain ⟨ad415, e415, hx415_0⟩ := Kd.at_int z6_0_ 1 p415 q415; obtain rfl : ad405 = ad415 := (by injection e415); (try simp only [show (1 : Int).toNat = 1 from rfl, Nat.reduceMul, Nat.reduceEqDiff, Go.Addr.add, ↓reduceIte] at hx415_0); have qi415 : (1 < (rd_L2 t332 x543_7).length) = True := eq_true (by omega); (try rw [show ((1 : Int)).toNat = 1 from rfl] at hx415_0); replace p415 := eq_true p415; replace q415 := eq_true q415; have p416 : 0 ≤ (0 : Int) := (by omega); have q416 : 0 < ((rd_L2 t332 x543_7).length : Int) := of_decide_eq_true z6_1_; obtain ⟨ad416, e416, hx416_0⟩ := Kd.at_int z6_0_ 0 p416 q416; obtain rfl : ad405 = ad416 := (by injection e416); have qi416 : (0 < (rd_L2 t332 x543_7).length) = True := eq_true (by omega); (try rw [show ((0 : Int)).toNat = 0 from rfl] at hx416_0); (try rw [Addr.add_zero'] at hx416_0); replace p416 := eq_true p416; replace q416 := eq_true q416)); try go_wp2_with (first | (go_at_call 19; (with_reducible refine (impl_SumOfHouses.calls 1 (wrap64 ((rd (rd_L2 t332 x543_7) 0) - 2)) 2 t413 true _ A151.out).mono ?_); rintro e w' ⟨rfl, ⟨nd, rfl⟩⟩; (try first | exact ⟨rfl, _, World.drewN_drewN _ _ _⟩ | exact ⟨rfl, _, Eq.trans (World.drewN_drewN _ _ _) (congrArg (World.drewN _) (Nat.add_assoc _ _ _))⟩); have p415 : 0 ≤ (1 : Int) := (by omega); have q415 : 1 < ((rd_L2 t332 x543_7).length : Int) := of_decide_eq_true z6_1_; obtain ⟨ad415, e415, hx415_0⟩ := Kd.at_int z6_0_ 1 p415 q415; obtain rfl : ad405 = ad415 := (by injection e415); (try simp only [show (1 : Int).toNat = 1 from rfl, Nat.reduceMul, Nat.reduceEqDiff, Go.Addr.add, ↓reduceIte] at hx415_0); have qi415 : (1 < (rd_L2 t332 x543_7).length) = True := eq_true (by omega); (try rw [show ((1 : Int)).toNat = 1 from rfl] at hx415_0); replace p415 := eq_true p415; replace q415 := eq_true q415; have p416 : 0 ≤ (0 : Int) := (by omega); have q416 : 0 < ((rd_L2 t332 x543_7).length : Int) := of_decide_eq_true z6_1_; obtain ⟨ad416, e416, hx416_0⟩ := Kd.at_int z6_0_ 0 p416 q416; obtain rfl : ad405 = ad416 := (by injection e416); have qi416 : (0 < (rd_L2 t332 x543_7).length) = True := eq_true (by omega); (try rw [show ((0 : Int)).toNat = 0 from rfl] at hx416_0); (try rw [Addr.add_zero'] at hx416_0); replace p416 := eq_true p416; replace q416 := eq_true q416)))
                                       go_roundg k7
                                       case measure => have := HJ12.out; have := HJ27.out; have := HJ37.out; have := HJ44.out; have := HK5.out; have := HJ128.out; have := HK7.out; omega
                                       case rel => exact ⟨(wrap64 (x543_7 + 1)), z6_7_, H', ⟨by have := HJ12.out; have := HJ27.out; have := HJ37.out; have := HJ44.out; have := HK5.out; have := HJ128.out; have := HK7.out; omega⟩, ⟨by (with_reducible repeat (first | apply Kd.S_alloc | apply Kd.S_drewN | apply Kd.S_drew)); exact HO_34.out⟩, ⟨by (with_reducible repeat (first | apply Kd.S_alloc | apply Kd.S_drewN | apply Kd.S_drew)); exact HO_541.out⟩, ⟨by repeat (first | (with_reducible first | exact HB.out | apply below_alloc | apply pw_below_drewN | apply below_drew1) | exact HB.out)⟩⟩
                                    replace c157 := Bool.eq_false_iff.mpr c157
                                    subst c157
                                    rw [if_neg (show ¬ (false = true) by decide)] at H
                                    as_aux_lemma =>
                                     exact Bool.noConfusion ((Option.some.inj H).trans hr_.out)
                                  rw [if_neg c150] at H
                                  have c150b0 : decide (1 < (rd (rd_L2 t332 x543_7) 0)) = false := decide_eq_false c150
                                  clear c150
                                  as_aux_lemma =>
                                   have H' := Aside0.mk H
                                   clear H
                                   have p398 : 0 ≤ (x543_7 : Int) := of_decide_eq_true z6_1_
                                   have q398 : x543_7 < (t332.length : Int) := of_decide_eq_true z6_1_
                                   obtain ⟨ad398, A398_0, c398_0, e398, hx398_0, hl398_0, hi398_0⟩ := at_L2 (Kd.S_reads' HO_541.out).2.2 x543_7 p398 q398
                                   cases e398
                                   obtain ⟨ce398, hce398, hMe398, hcc398⟩ := Kd.S_get HO_541.out [] x543_7 p398 z6_12_
                                   obtain ⟨ve398_0, rfl, ge398_0⟩ := hMe398
                                   have hv398_0 := hcc398 0 _ rfl
                                   rw [Nat.add_zero, show ((Kd.slice 3 (Kd.int .i64))).sz = 1 from rfl, Nat.mul_one] at hv398_0
                                   replace hv398_0 := Option.some.inj (hv398_0.symm.trans hx398_0)
                                   rw [hv398_0] at ge398_0
                                   have HL398_0 := Aside0.mk (show Kd.R (Kd.int .i64) 3 _ _ _ _ (rd_L2 t332 x543_7) from ge398_0)
                                   clear hv398_0 ge398_0
                                   clear hcc398 hce398
                                   have HR398_0 := Aside0.mk hi398_0
                                   have HC398_0 := Aside0.mk hl398_0
                                   clear hi398_0 hl398_0
                                   replace p398 := eq_true p398
                                   replace q398 := eq_true q398
                                   have p405 : 0 ≤ (0 : Int) := (by omega)
                                   have q405 : 0 < ((rd_L2 t332 x543_7).length : Int) := of_decide_eq_true z6_1_
                                   obtain ⟨ad405, e405, hx405_0⟩ := Kd.at_int z6_0_ 0 p405 q405
                                   cases e405
                                   have qi405 : (0 < (rd_L2 t332 x543_7).length) = True := eq_true (by omega)
                                   (try rw [show ((0 : Int)).toNat = 0 from rfl] at hx405_0)
                                   (try rw [Addr.add_zero'] at hx405_0)
                                   replace p405 := eq_true p405
                                   replace q405 := eq_true q405
                                   have p406 : 0 ≤ (1 : Int) := (by omega)
                                   have q406 : 1 < ((rd_L2 t332 x543_7).length : Int) := of_decide_eq_true z6_1_
                                   obtain ⟨ad406, e406, hx406_0⟩ := Kd.at_int z6_0_ 1 p406 q406
                                   obtain rfl : ad405 = ad406 := (by injection e406)
                                   (try simp only [show (1 : Int).toNat = 1 from rfl, Nat.reduceMul, Nat.reduceEqDiff, Go.Addr.add, ↓reduceIte] at hx406_0)
                                   have qi406 : (1 < (rd_L2 t332 x543_7).length) = True := eq_true (by omega)
                                   (try rw [show ((1 : Int)).toNat = 1 from rfl] at hx406_0)
                                   replace p406 := eq_true p406
                                   replace q406 := eq_true q406
                                   have p407 : 0 ≤ (1 : Int) := (by omega)
                                   have q407 : 1 < ((rd_L2 t332 x543_7).length : Int) := of_decide_eq_true z6_1_
                                   obtain ⟨ad407, e407, hx407_0⟩ := Kd.at_int z6_0_ 1 p407 q407
                                   obtain rfl : ad405 = ad407 := (by injection e407)
                                   (try simp only [show (1 : Int).toNat = 1 from rfl, Nat.reduceMul, Nat.reduceEqDiff, Go.Addr.add, ↓reduceIte] at hx407_0)
                                   have qi407 : (1 < (rd_L2 t332 x543_7).length) = True := eq_true (by omega)
                                   (try rw [show ((1 : Int)).toNat = 1 from rfl] at hx407_0)
                                   replace p407 := eq_true p407
                                   replace q407 := eq_true q407
                                   have p408 : 0 ≤ ((ji145) : Int) := of_decide_eq_true z6_1_
                                   have q408 : (ji145) < (t332.length : Int) := of_decide_eq_true z6_1_
                                   obtain ⟨ad408, A408_0, c408_0, e408, hx408_0, hl408_0, hi408_0⟩ := at_L2 (Kd.S_reads' HO_34.out).2.2 (ji145) p408 q408
                                   obtain rfl : ad398 = ad408 := (by injection e408)
                                   obtain ⟨ce408, hce408, hMe408, hcc408⟩ := Kd.S_get HO_34.out [] (ji145) p408 (by first | exact q408 | exact of_decide_eq_true z6_1_ | (have e_ := (Kd.S_reads' HO_34.out).1; omega))
                                   obtain ⟨ve408_0, rfl, ge408_0⟩ := hMe408
                                   have hv408_0 := hcc408 0 _ rfl
                                   rw [Nat.add_zero, show ((Kd.slice 3 (Kd.int .i64))).sz = 1 from rfl, Nat.mul_one] at hv408_0
                                   replace hv408_0 := Option.some.inj (hv408_0.symm.trans hx408_0)
                                   rw [hv408_0] at ge408_0
                                   have HL408_0 := Aside0.mk (show Kd.R (Kd.int .i64) 3 _ _ _ _ (rd_L2 t332 (ji145)) from ge408_0)
                                   clear hv408_0 ge408_0
                                   clear hcc408 hce408
                                   have HR408_0 := Aside0.mk hi408_0
                                   have HC408_0 := Aside0.mk hl408_0
                                   clear hi408_0 hl408_0
                                   replace p408 := eq_true p408
                                   replace q408 := eq_true q408
                                   have p409 : 0 ≤ (1 : Int) := (by omega)
                                   have q409 : 1 < ((rd_L2 t332 (ji145)).length : Int) := of_decide_eq_true z6_1_
                                   obtain ⟨ad409, e409, hx409_0⟩ := Kd.at_int z6_10_ 1 p409 q409
                                   cases e409
                                   (try simp only [show (1 : Int).toNat = 1 from rfl, Nat.reduceMul, Nat.reduceEqDiff, Go.Addr.add, ↓reduceIte] at hx409_0)
                                   have qi409 : (1 < (rd_L2 t332 (ji145)).length) = True := eq_true (by omega)
                                   (try rw [show ((1 : Int)).toNat = 1 from rfl] at hx409_0)
                                   replace p409 := eq_true p409
                                   replace q409 := eq_true q409
                                   have p410 : 0 ≤ (1 : Int) := (by omega)
                                   have q410 : 1 < ((rd_L2 t332 x543_7).length : Int) := of_decide_eq_true z6_1_
                                   obtain ⟨ad410, e410, hx410_0⟩ := Kd.at_int z6_0_ 1 p410 q410
                                   obtain rfl : ad405 = ad410 := (by injection e410)
                                   (try simp only [show (1 : Int).toNat = 1 from rfl, Nat.reduceMul, Nat.reduceEqDiff, Go.Addr.add, ↓reduceIte] at hx410_0)
                                   have qi410 : (1 < (rd_L2 t332 x543_7).length) = True := eq_true (by omega)
                                   (try rw [show ((1 : Int)).toNat = 1 from rfl] at hx410_0)
                                   replace p410 := eq_true p410
                                   replace q410 := eq_true q410
                                   have p411 : 0 ≤ (0 : Int) := (by omega)
                                   have q411 : 0 < ((rd_L2 t332 x543_7).length : Int) := of_decide_eq_true z6_1_
                                   obtain ⟨ad411, e411, hx411_0⟩ := Kd.at_int z6_0_ 0 p411 q411
                                   obtain rfl : ad405 = ad411 := (by injection e411)
                                   have qi411 : (0 < (rd_L2 t332 x543_7).length) = True := eq_true (by omega)
                                   (try rw [show ((0 : Int)).toNat = 0 from rfl] at hx411_0)
                                   (try rw [Addr.add_zero'] at hx411_0)
                                   replace p411 := eq_true p411
                                   replace q411 := eq_true q411
                                   go_wp2
                                   repeat (go_quiet (fail); try go_wp2)
                                   go_roundg k7
                                   case measure => have := HJ12.out; have := HJ27.out; have := HJ37.out; have := HJ44.out; have := HK5.out; have := HJ128.out; have := HK7.out; omega
                                   case rel => exact ⟨(wrap64 (x543_7 + 1)), z6_7_, H', ⟨by have := HJ12.out; have := HJ27.out; have := HJ37.out; have := HJ44.out; have := HK5.out; have := HJ128.out; have := HK7.out; omega⟩, ⟨by (with_reducible repeat (first | apply Kd.S_alloc | apply Kd.S_drewN | apply Kd.S_drew)); exact HO_34.out⟩, ⟨by (with_reducible repeat (first | apply Kd.S_alloc | apply Kd.S_drewN | apply Kd.S_drew)); exact HO_541.out⟩, ⟨by repeat (first | (with_reducible first | exact HB.out | apply below_alloc | apply pw_below_drewN | apply below_drew1) | exact HB.out)⟩⟩
                                rw [if_neg c144] at H
                                have c144b0 : decide (0 < x543_7) = false := decide_eq_false c144
                                clear c144
                                by_cases c159 : (rd (rd_L2 t332 x543_7) 0) > 1
                                · rw [if_pos c159] at H
                                  have c159b0 : decide (1 < (rd (rd_L2 t332 x543_7) 0)) = true := decide_eq_true c159
                                  clear c159
                                  replace H := Option.bind_eq_some_iff.mp H
                                  obtain ⟨⟨t423, t424⟩, A1600, H⟩ := H
                                  dsimp only at H
                                  have A160 := Aside0.mk A1600
                                  clear A1600
                                  by_cases c161 : (rd (rd_L2 t332 x543_7) 1) > (rd (rd_L2 t332 x543_7) 0)
                                  · rw [if_pos c161] at H
                                    have c161b0 : decide ((rd (rd_L2 t332 x543_7) 0) < (rd (rd_L2 t332 x543_7) 1)) = true := decide_eq_true c161
                                    clear c161
                                    replace H := Option.bind_eq_some_iff.mp H
                                    obtain ⟨⟨t429, t430⟩, A1620, H⟩ := H
                                    dsimp only at H
                                    have A162 := Aside0.mk A1620
                                    clear A1620
                                    by_cases c163 : t430 = true
                                    · subst c163
                                      rw [if_pos rfl] at H
                                      by_cases c164 : t424 = true
                                      · subst c164
                                        rw [if_pos rfl] at H
                                        by_cases c165 : t423 = t429
                                        rotate_left
                                        · exact dead_ (if_neg c165) H hr_
                                        rw [if_pos c165] at H
                                        have c165b0 : (t423 == t429) = true := beq_iff_eq.mpr c165
                                        have c165b1 : (t423 != t429) = false := bne_eq_false_iff_eq.mpr c165
                                        clear c165
                                        as_aux_lemma =>
                                         have H' := Aside0.mk H
                                         clear H
                                         have p398 : 0 ≤ (x543_7 : Int) := of_decide_eq_true z6_1_
                                         have q398 : x543_7 < (t332.length : Int) := of_decide_eq_true z6_1_
                                         obtain ⟨ad398, A398_0, c398_0, e398, hx398_0, hl398_0, hi398_0⟩ := at_L2 (Kd.S_reads' HO_541.out).2.2 x543_7 p398 q398
                                         cases e398
                                         obtain ⟨ce398, hce398, hMe398, hcc398⟩ := Kd.S_get HO_541.out [] x543_7 p398 z6_12_
                                         obtain ⟨ve398_0, rfl, ge398_0⟩ := hMe398
                                         have hv398_0 := hcc398 0 _ rfl
                                         rw [Nat.add_zero, show ((Kd.slice 3 (Kd.int .i64))).sz = 1 from rfl, Nat.mul_one] at hv398_0
                                         replace hv398_0 := Option.some.inj (hv398_0.symm.trans hx398_0)
                                         rw [hv398_0] at ge398_0
                                         have HL398_0 := Aside0.mk (show Kd.R (Kd.int .i64) 3 _ _ _ _ (rd_L2 t332 x543_7) from ge398_0)
                                         clear hv398_0 ge398_0
                                         clear hcc398 hce398
                                         have HR398_0 := Aside0.mk hi398_0
                                         have HC398_0 := Aside0.mk hl398_0
                                         clear hi398_0 hl398_0
                                         replace p398 := eq_true p398
                                         replace q398 := eq_true q398
                                         have p405 : 0 ≤ (0 : Int) := (by omega)
                                         have q405 : 0 < ((rd_L2 t332 x543_7).length : Int) := of_decide_eq_true z6_1_
                                         obtain ⟨ad405, e405, hx405_0⟩ := Kd.at_int z6_0_ 0 p405 q405
                                         cases e405
                                         have qi405 : (0 < (rd_L2 t332 x543_7).length) = True := eq_true (by omega)
                                         (try rw [show ((0 : Int)).toNat = 0 from rfl] at hx405_0)
                                         (try rw [Addr.add_zero'] at hx405_0)
                                         replace p405 := eq_true p405
                                         replace q405 := eq_true q405
                                         have p406 : 0 ≤ (1 : Int) := (by omega)
                                         have q406 : 1 < ((rd_L2 t332 x543_7).length : Int) := of_decide_eq_true z6_1_
                                         obtain ⟨ad406, e406, hx406_0⟩ := Kd.at_int z6_0_ 1 p406 q406
                                         obtain rfl : ad405 = ad406 := (by injection e406)
                                         (try simp only [show (1 : Int).toNat = 1 from rfl, Nat.reduceMul, Nat.reduceEqDiff, Go.Addr.add, ↓reduceIte] at hx406_0)
                                         have qi406 : (1 < (rd_L2 t332 x543_7).length) = True := eq_true (by omega)
                                         (try rw [show ((1 : Int)).toNat = 1 from rfl] at hx406_0)
                                         replace p406 := eq_true p406
                                         replace q406 := eq_true q406
                                         have p407 : 0 ≤ (1 : Int) := (by omega)
                                         have q407 : 1 < ((rd_L2 t332 x543_7).length : Int) := of_decide_eq_true z6_1_
                                         obtain ⟨ad407, e407, hx407_0⟩ := Kd.at_int z6_0_ 1 p407 q407
                                         obtain rfl : ad405 = ad407 := (by injection e407)
                                         (try simp only [show (1 : Int).toNat = 1 from rfl, Nat.reduceMul, Nat.reduceEqDiff, Go.Addr.add, ↓reduceIte] at hx407_0)
                                         have qi407 : (1 < (rd_L2 t332 x543_7).length) = True := eq_true (by omega)
                                         (try rw [show ((1 : Int)).toNat = 1 from rfl] at hx407_0)
                                         replace p407 := eq_true p407
                                         replace q407 := eq_true q407
                                         have p421 : 0 ≤ (0 : Int) := (by omega)
                                         have q421 : 0 < ((rd_L2 t332 x543_7).length : Int) := of_decide_eq_true z6_1_
                                         obtain ⟨ad421, e421, hx421_0⟩ := Kd.at_int z6_0_ 0 p421 q421
                                         obtain rfl : ad405 = ad421 := (by injection e421)
                                         have qi421 : (0 < (rd_L2 t332 x543_7).length) = True := eq_true (by omega)
                                         (try rw [show ((0 : Int)).toNat = 0 from rfl] at hx421_0)
                                         (try rw [Addr.add_zero'] at hx421_0)
                                         replace p421 := eq_true p421
                                         replace q421 := eq_true q421
                                         have p422 : 0 ≤ (0 : Int) := (by omega)
                                         have q422 : 0 < ((rd_L2 t332 x543_7).length : Int) := of_decide_eq_true z6_1_
                                         obtain ⟨ad422, e422, hx422_0⟩ := Kd.at_int z6_0_ 0 p422 q422
                                         obtain rfl : ad405 = ad422 := (by injection e422)
                                         have qi422 : (0 < (rd_L2 t332 x543_7).length) = True := eq_true (by omega)
                                         (try rw [show ((0 : Int)).toNat = 0 from rfl] at hx422_0)
                                         (try rw [Addr.add_zero'] at hx422_0)
                                         replace p422 := eq_true p422
                                         replace q422 := eq_true q422
                                         go_wp2_with (first | (go_at_call 19; (with_reducible refine (impl_SumOfHouses.calls 1 (wrap64 ((rd (rd_L2 t332 x543_7) 0) - 2)) 2 t423 true _ A160.out).mono ?_); rintro e w' ⟨rfl, ⟨nd, rfl⟩⟩; (try first | exact ⟨rfl, _, World.drewN_drewN _ _ _⟩ | exact ⟨rfl, _, Eq.trans (World.drewN_drewN _ _ _) (congrArg (World.drewN _) (Nat.add_assoc _ _ _))⟩); have p425 : 0 ≤ (1 : Int) := (by omega); have q425 : 1 < ((rd_L2 t332 x543_7).length : Int) := of_decide_eq_true z6_1_; obtain ⟨ad425, e425, hx425_0⟩ := Kd.at_int z6_0_ 1 p425 q425; obtain rfl : ad405 = ad425 := (by injection e425); (try simp only [show (1 : Int).toNat = 1 from rfl, Nat.reduceMul, Nat.reduceEqDiff, Go.Addr.add, ↓reduceIte] at hx425_0); have qi425 : (1 < (rd_L2 t332 x543_7).length) = True := eq_true (by omega); (try rw [show ((1 : Int)).toNat = 1 from rfl] at hx425_0); replace p425 := eq_true p425; replace q425 := eq_true q425; have p426 : 0 ≤ (0 : Int) := (by omega); have q426 : 0 < ((rd_L2 t332 x543_7).length : Int) := of_decide_eq_true z6_1_; obtain ⟨ad426, e426, hx426_0⟩ := Kd.at_int z6_0_ 0 p426 q426; obtain rfl : ad405 = ad426 := (by injection e426); have qi426 : (0 < (rd_L2 t332 x543_7).length) = True := eq_true (by omega); (try rw [show ((0 : Int)).toNat = 0 from rfl] at hx426_0); (try rw [Addr.add_zero'] at hx426_0); replace p426 := eq_true p426; replace q426 := eq_true q426; have p427 : 0 ≤ (0 : Int) := (by omega); have q427 : 0 < ((rd_L2 t332 x543_7).length : Int) := of_decide_eq_true z6_1_; obtain ⟨ad427, e427, hx427_0⟩ := Kd.at_int z6_0_ 0 p427 q427; obtain rfl : ad405 = ad427 := (by injection e427); have qi427 : (0 < (rd_L2 t332 x543_7).length) = True := eq_true (by omega); (try rw [show ((0 : Int)).toNat = 0 from rfl] at hx427_0); (try rw [Addr.add_zero'] at hx427_0); replace p427 := eq_true p427; replace q427 := eq_true q427; have p428 : 0 ≤ (1 : Int) := (by omega); have q428 : 1 < ((rd_L2 t332 x543_7).length : Int) := of_decide_eq_true z6_1_; obtain ⟨ad428, e428, hx428_0⟩ := Kd.at_int z6_0_ 1 p428 q428; obtain rfl : ad405 = ad428 := (by injection e428); (try simp only [show (1 : Int).toNat = 1 from rfl, Nat.reduceMul, Nat.reduceEqDiff, Go.Addr.add, ↓reduceIte] at hx428_0); have qi428 : (1 < (rd_L2 t332 x543_7).length) = True := eq_true (by omega); (try rw [show ((1 : Int)).toNat = 1 from rfl] at hx428_0); replace p428 := eq_true p428; replace q428 := eq_true q428) | (go_at_call 19; (with_reducible refine (impl_SumOfHouses.calls (wrap64 ((rd (rd_L2 t332 x543_7) 0) + 2)) (rd (rd_L2 t332 x543_7) 1) 2 t429 true _ A162.out).mono ?_); rintro e w' ⟨rfl, ⟨nd, rfl⟩⟩; (try first | exact ⟨rfl, _, World.drewN_drewN _ _ _⟩ | exact ⟨rfl, _, Eq.trans (World.drewN_drewN _ _ _) (congrArg (World.drewN _) (Nat.add_assoc _ _ _))⟩)))
                                         repeat (go_quiet (first | (go_at_call 19; (with_reducible refine (impl_SumOfHouses.calls 1 (wrap64 ((rd (rd_L2 t332 x543_7) 0) - 2)) 2 t423 true _ A160.out).mono ?_); rintro e w' ⟨rfl, ⟨nd, rfl⟩⟩; (try first | exact ⟨rfl, _, World.drewN_drewN _ _ _⟩ | exact ⟨rfl, _, Eq.trans (World.drewN_drewN _ _ _) (congrArg (World.drewN _) (Nat.add_assoc _ _ _))⟩); have p425 : 0 ≤ (1 : Int) := (by omega); have q425 : 1 < ((rd_L2 t332 x543_7).length : Int) := of_decide_eq_true z6_1_; obtain ⟨ad425, e425, hx425_0⟩ := Kd.at_int z6_0_ 1 p425 q425; obtain rfl : ad405 = ad425 := (by injection e425); (try simp only [show (1 : Int).toNat = 1 from rfl, Nat.reduceMul, Nat.reduceEqDiff, Go.Addr.add, ↓reduceIte] at hx425_0); have qi425 : (1 < (rd_L2 t332 x543_7).length) = True := eq_true (by omega); (try rw [show ((1 : Int)).toNat = 1 from rfl] at hx425_0); replace p425 := eq_true p425; replace q425 := eq_true q425; have p426 : 0 ≤ (0 : Int) := (by omega); have q426 : 0 < ((rd_L2 t332 x543_7).length : Int) := of_decide_eq_true z6_1_; obtain ⟨ad426, e426, hx426_0⟩ := Kd.at_int z6_0_ 0 p426 q426; obtain rfl : ad405 = ad426 := (by injection e426); have qi426 : (0 < (rd_L2 t332 x543_7).length) = True := eq_true (by omega); (try rw [show ((0 : Int)).toNat = 0 from rfl] at hx426_0); (try rw [Addr.add_zero'] at hx426_0); replace p426 := eq_true p426; replace q426 := eq_true q426; have p427 : 0 ≤ (0 : Int) := (by omega); have q427 : 0 < ((rd_L2 t332 x543_7).length : Int) := of_decide_eq_true z6_1_; obtain ⟨ad427, e427, hx427_0⟩ := Kd.at_int z6_0_ 0 p427 q427; obtain rfl : ad405 = ad427 := (by injection e427); have qi427 : (0 < (rd_L2 t332 x543_7).length) = True := eq_true (by omega); (try rw [show ((0 : Int)).toNat = 0 from rfl] at hx427_0); (try rw [Addr.add_zero'] at hx427_0); replace p427 := eq_true p427; replace q427 := eq_true q427; have p428 : 0 ≤ (1 : Int) := (by omega); have q428 : 1 < ((rd_L2 t332 x543_7).length : Int) := of_decide_eq_true z6_1_; obtain ⟨ad428, e428, hx428_0⟩ := Kd.at_int z6_0_ 1 p428 q428; obtain rfl : ad405 = ad428 := (by injection e428); (try simp only [show (1 : Int).toNat = 1 from rfl, Nat.reduceMul, Nat.reduceEqDiff, Go.Addr.add, ↓reduceIte] at hx428_0); have qi428 : (1 < (rd_L2 t332 x543_7).length) = True := eq_true (by omega); (try rw [show ((1 : Int)).toNat = 1 from rfl] at hx428_0); replace p428 := eq_true p428; replace q428 := eq_true q428) | (go_at_call 19; (with_reducible refine (impl_SumOfHouses.calls (wrap64 ((rd (rd_L2 t332 x543_7) 0) + 2)) (rd (rd_L2 t332 x543_7) 1) 2 t429 true _ A162.out).mono ?_); rintro e w' ⟨rfl, ⟨nd, rfl⟩⟩; (try first | exact ⟨rfl, _, World.drewN_drewN _ _ _⟩ | exact ⟨rfl, _, Eq.trans (World.drewN_drewN _ _ _) (congrArg (World.drewN _) (Nat.add_assoc _ _ _))⟩))); try go_wp2_with (first | (go_at_call 19; (with_reducible refine (impl_SumOfHouses.calls 1 (wrap64 ((rd (rd_L2 t332 x543_7) 0) - 2)) 2 t423 true _ A160.out).mono ?_); rintro e w' ⟨rfl, ⟨nd, rfl⟩⟩; (try first | exact ⟨rfl, _, World.drewN_drewN _ _ _⟩ | exact ⟨rfl, _, Eq.trans (World.drewN_drewN _ _ _) (congrArg (World.drewN _) (Nat.add_assoc _ _ _))⟩); have p425 : 0 ≤ (1 : Int) := (by omega); have q425 : 1 < ((rd_L2 t332 x543_7).length : Int) := of_decide_eq_true z6_1_; obtain ⟨ad425, e425, hx425_0⟩ := Kd.at_int z6_0_ 1 p425 q425; obtain rfl : ad405 = ad425 := (by injection e425); (try simp only [show (1 : Int).toNat = 1 from rfl, Nat.reduceMul, Nat.reduceEqDiff, Go.Addr.add, ↓reduceIte] at hx425_0); have qi425 : (1 < (rd_L2 t332 x543_7).length) = True := eq_true (by omega); (try rw [show ((1 : Int)).toNat = 1 from rfl] at hx425_0); replace p425 := eq_true p425; replace q425 := eq_true q425; have p426 : 0 ≤ (0 : Int) := (by omega); have q426 : 0 < ((rd_L2 t332 x543_7).length : Int) := of_decide_eq_true z6_1_; obtain ⟨ad426, e426, hx426_0⟩ := Kd.at_int z6_0_ 0 p426 q426; obtain rfl : ad405 = ad426 := (by injection e426); have qi426 : (0 < (rd_L2 t332 x543_7).length) = True := eq_true (by omega); (try rw [show ((0 : Int)).toNat = 0 from rfl] at hx426_0); (try rw [Addr.add_zero'] at hx426_0); replace p426 := eq_true p426; replace q426 := eq_true q426; have p427 : 0 ≤ (0 : Int) := (by omega); have q427 : 0 < ((rd_L2 t332 x543_7).length : Int) := of_decide_eq_true z6_1_; obtain ⟨ad427, e427, hx427_0⟩ := Kd.at_int z6_0_ 0 p427 q427; obtain rfl : ad405 = ad427 := (by injection e427); have qi427 : (0 < (rd_L2 t332 x543_7).length) = True := eq_true (by omega); (try rw [show ((0 : Int)).toNat = 0 from rfl] at hx427_0); (try rw [Addr.add_zero'] at hx427_0); replace p427 := eq_true p427; replace q427 := eq_true q427; have p428 : 0 ≤ (1 : Int) := (by omega); have q428 : 1 < ((rd_L2 t332 x543_7).length : Int) := of_decide_eq_true z6_1_; obtain ⟨ad428, e428, hx428_0⟩ := Kd.at_int z6_0_ 1 p428 q428; obtain rfl : ad405 = ad428 := (by injection e428); (try simp only [show (1 : Int).toNat = 1 from rfl, Nat.reduceMul, Nat.reduceEqDiff, Go.Addr.add, ↓reduceIte] at hx428_0); have qi428 : (1 < (rd_L2 t332 x543_7).length) = True := eq_true (by omega); (try rw [show ((1 : Int)).toNat = 1 from rfl] at hx428_0); replace p428 := eq_true p428; replace q428 := eq_true q428) | (go_at_call 19; (with_reducible refine (impl_SumOfHouses.calls (wrap64 ((rd (rd_L2 t332 x543_7) 0) + 2)) (rd (rd_L2 t332 x543_7) 1) 2 t429 true _ A162.out).mono ?_); rintro e w' ⟨rfl, ⟨nd, rfl⟩⟩; (try first | exact ⟨rfl, _, World.drewN_drewN _ _ _⟩ | exact ⟨rfl, _, Eq.trans (World.drewN_drewN _ _ _) (congrArg (World.drewN _) (Nat.add_assoc _ _ _))⟩))))
                                         go_roundg k7
                                         case measure => have := HJ12.out; have := HJ27.out; have := HJ37.out; have := HJ44.out; have := HK5.out; have := HJ128.out; have := HK7.out; omega
                                         case rel => exact ⟨(wrap64 (x543_7 + 1)), z6_7_, H', ⟨by have := HJ12.out; have := HJ27.out; have := HJ37.out; have := HJ44.out; have := HK5.out; have := HJ128.out; have := HK7.out; omega⟩, ⟨by (with_reducible repeat (first | apply Kd.S_alloc | apply Kd.S_drewN | apply Kd.S_drew)); exact HO_34.out⟩, ⟨by (with_reducible repeat (first | apply Kd.S_alloc | apply Kd.S_drewN | apply Kd.S_drew)); exact HO_541.out⟩, ⟨by repeat (first | (with_reducible first | exact HB.out | apply below_alloc | apply pw_below_drewN | apply below_drew1) | exact HB.out)⟩⟩
                                      replace c164 := Bool.eq_false_iff.mpr c164
                                      subst c164
                                      rw [if_neg (show ¬ (false = true) by decide)] at H
                                      as_aux_lemma =>
                                       exact Bool.noConfusion ((Option.some.inj H).trans hr_.out)
                                    replace c163 := Bool.eq_false_iff.mpr c163
                                    subst c163
                                    rw [if_neg (show ¬ (false = true) by decide)] at H
                                    as_aux_lemma =>
                                     exact Bool.noConfusion ((Option.some.inj H).trans hr_.out)
                                  rw [if_neg c161] at H
                                  have c161b0 : decide ((rd (rd_L2 t332 x543_7) 0) < (rd (rd_L2 t332 x543_7) 1)) = false := decide_eq_false c161
                                  clear c161
                                  by_cases c166 : t424 = true
                                  · subst c166
                                    rw [if_pos rfl] at H
                                    by_cases c167 : t423 = 0
                                    rotate_left
                                    · exact dead_ (if_neg c167) H hr_
                                    rw [if_pos c167] at H
                                    have c167b0 : (t423 == 0) = true := beq_iff_eq.mpr c167
                                    have c167b1 : (t423 != 0) = false := bne_eq_false_iff_eq.mpr c167
                                    clear c167
                                    as_aux_lemma =>
                                     have H' := Aside0.mk H
                                     clear H
                                     have p398 : 0 ≤ (x543_7 : Int) := of_decide_eq_true z6_1_
                                     have q398 : x543_7 < (t332.length : Int) := of_decide_eq_true z6_1_
                                     obtain ⟨ad398, A398_0, c398_0, e398, hx398_0, hl398_0, hi398_0⟩ := at_L2 (Kd.S_reads' HO_541.out).2.2 x543_7 p398 q398
                                     cases e398
                                     obtain ⟨ce398, hce398, hMe398, hcc398⟩ := Kd.S_get HO_541.out [] x543_7 p398 z6_12_
                                     obtain ⟨ve398_0, rfl, ge398_0⟩ := hMe398
                                     have hv398_0 := hcc398 0 _ rfl
                                     rw [Nat.add_zero, show ((Kd.slice 3 (Kd.int .i64))).sz = 1 from rfl, Nat.mul_one] at hv398_0
                                     replace hv398_0 := Option.some.inj (hv398_0.symm.trans hx398_0)
                                     rw [hv398_0] at ge398_0
                                     have HL398_0 := Aside0.mk (show Kd.R (Kd.int .i64) 3 _ _ _ _ (rd_L2 t332 x543_7) from ge398_0)
                                     clear hv398_0 ge398_0
                                     clear hcc398 hce398
                                     have HR398_0 := Aside0.mk hi398_0
                                     have HC398_0 := Aside0.mk hl398_0
                                     clear hi398_0 hl398_0
                                     replace p398 := eq_true p398
                                     replace q398 := eq_true q398
                                     have p405 : 0 ≤ (0 : Int) := (by omega)
                                     have q405 : 0 < ((rd_L2 t332 x543_7).length : Int) := of_decide_eq_true z6_1_
                                     obtain ⟨ad405, e405, hx405_0⟩ := Kd.at_int z6_0_ 0 p405 q405
                                     cases e405
                                     have qi405 : (0 < (rd_L2 t332 x543_7).length) = True := eq_true (by omega)
                                     (try rw [show ((0 : Int)).toNat = 0 from rfl] at hx405_0)
                                     (try rw [Addr.add_zero'] at hx405_0)
                                     replace p405 := eq_true p405
                                     replace q405 := eq_true q405
                                     have p406 : 0 ≤ (1 : Int) := (by omega)
                                     have q406 : 1 < ((rd_L2 t332 x543_7).length : Int) := of_decide_eq_true z6_1_
                                     obtain ⟨ad406, e406, hx406_0⟩ := Kd.at_int z6_0_ 1 p406 q406
                                     obtain rfl : ad405 = ad406 := (by injection e406)
                                     (try simp only [show (1 : Int).toNat = 1 from rfl, Nat.reduceMul, Nat.reduceEqDiff, Go.Addr.add, ↓reduceIte] at hx406_0)
                                     have qi406 : (1 < (rd_L2 t332 x543_7).length) = True := eq_true (by omega)
                                     (try rw [show ((1 : Int)).toNat = 1 from rfl] at hx406_0)
                                     replace p406 := eq_true p406
                                     replace q406 := eq_true q406
                                     have p407 : 0 ≤ (1 : Int) := (by omega)
                                     have q407 : 1 < ((rd_L2 t332 x543_7).length : Int) := of_decide_eq_true z6_1_
                                     obtain ⟨ad407, e407, hx407_0⟩ := Kd.at_int z6_0_ 1 p407 q407
                                     obtain rfl : ad405 = ad407 := (by injection e407)
                                     (try simp only [show (1 : Int).toNat = 1 from rfl, Nat.reduceMul, Nat.reduceEqDiff, Go.Addr.add, ↓reduceIte] at hx407_0)
                                     have qi407 : (1 < (rd_L2 t332 x543_7).length) = True := eq_true (by omega)
                                     (try rw [show ((1 : Int)).toNat = 1 from rfl] at hx407_0)
                                     replace p407 := eq_true p407
                                     replace q407 := eq_true q407
                                     have p421 : 0 ≤ (0 : Int) := (by omega)
                                     have q421 : 0 < ((rd_L2 t332 x543_7).length : Int) := of_decide_eq_true z6_1_
                                     obtain ⟨ad421, e421, hx421_0⟩ := Kd.at_int z6_0_ 0 p421 q421
                                     obtain rfl : ad405 = ad421 := (by injection e421)
                                     have qi421 : (0 < (rd_L2 t332 x543_7).length) = True := eq_true (by omega)
                                     (try rw [show ((0 : Int)).toNat = 0 from rfl] at hx421_0)
                                     (try rw [Addr.add_zero'] at hx421_0)
                                     replace p421 := eq_true p421
                                     replace q421 := eq_true q421
                                     have p422 : 0 ≤ (0 : Int) := (by omega)
                                     have q422 : 0 < ((rd_L2 t332 x543_7).length : Int) := of_decide_eq_true z6_1_
                                     obtain ⟨ad422, e422, hx422_0⟩ := Kd.at_int z6_0_ 0 p422 q422
                                     obtain rfl : ad405 = ad422 := (by injection e422)
                                     have qi422 : (0 < (rd_L2 t332 x543_7).length) = True := eq_true (by omega)
                                     (try rw [show ((0 : Int)).toNat = 0 from rfl] at hx422_0)
                                     (try rw [Addr.add_zero'] at hx422_0)
                                     replace p422 := eq_true p422
                                     replace q422 := eq_true q422
                                     go_wp2_with (first | (go_at_call 19; (with_reducible refine (impl_SumOfHouses.calls 1 (wrap64 ((rd (rd_L2 t332 x543_7) 0) - 2)) 2 t423 true _ A160.out).mono ?_); rintro e w' ⟨rfl, ⟨nd, rfl⟩⟩; (try first | exact ⟨rfl, _, World.drewN_drewN _ _ _⟩ | exact ⟨rfl, _, Eq.trans (World.drewN_drewN _ _ _) (congrArg (World.drewN _) (Nat.add_assoc _ _ _))⟩); have p425 : 0 ≤ (1 : Int) := (by omega); have q425 : 1 < ((rd_L2 t332 x543_7).length : Int) := of_decide_eq_true z6_1_; obtain ⟨ad425, e425, hx425_0⟩ := Kd.at_int z6_0_ 1 p425 q425; obtain rfl : ad405 = ad425 := (by injection e425); (try simp only [show (1 : Int).toNat = 1 from rfl, Nat.reduceMul, Nat.reduceEqDiff, Go.Addr.add, ↓reduceIte] at hx425_0); have qi425 : (1 < (rd_L2 t332 x543_7).length) = True := eq_true (by omega); (try rw [show ((1 : Int)).toNat = 1 from rfl] at hx425_0); replace p425 := eq_true p425; replace q425 := eq_true q425; have p426 : 0 ≤ (0 : Int) := (by omega); have q426 : 0 < ((rd_L2 t332 x543_7).length : Int) := of_decide_eq_true z6_1_; obtain ⟨ad426, e426, hx426_0⟩ := Kd.at_int z6_0_ 0 p426 q426; obtain rfl : ad405 = ad426 := (by injection e426); have qi426 : (0 < (rd_L2 t332 x543_7).length) = True := eq_true (by omega); (try rw [show ((0 : Int)).toNat = 0 from rfl] at hx426_0); (try rw [Addr.add_zero'] at hx426_0); replace p426 := eq_true p426; replace q426 := eq_true q426))
                                     repeat (go_quiet (first | (go_at_call 19; (with_reducible refine (impl_SumOfHouses.calls 1 (wrap64 ((rd (rd_L2 t332 x543_7) 0) - 2)) 2 t423 true _ A160.out).mono ?_); rintro e w' ⟨rfl, ⟨nd, rfl⟩⟩; (try first | exact ⟨rfl, _, World.drewN_drewN _ _ _⟩ | exact ⟨rfl, _, Eq.trans (World.drewN_drewN _ _ _) (congrArg (World.drewN _) (Nat.add_assoc _ _ _))⟩); have p425 : 0 ≤ (1 : Int) := (by omega); have q425 : 1 < ((rd_L2 t332 x543_7).length : Int) := of_decide_eq_true z6_1_; obtain ⟨ad425, e425, hx425_0⟩ := Kd.at_int z6_0_ 1 p425 q425; obtain rfl : ad405 = ad425 := (by injection e425); (try simp only [show (1 : Int).toNat = 1 from rfl, Nat.reduceMul, Nat.reduceEqDiff, Go.Addr.add, ↓reduceIte] at hx425_0); have qi425 : (1 < (rd_L2 t332 x543_7).length) = True := eq_true (by omega); (try rw [show ((1 : Int)).toNat = 1 from rfl] at hx425_0); replace p425 := eq_true p425; replace q425 := eq_true q425; have p426 : 0 ≤ (0 : Int) := (by omega); have q426 : 0 < ((rd_L2 t332 x543_7).length : Int) := of_decide_eq_true z6_1_; obtain ⟨ad426, e426, hx426_0⟩ := Kd.at_int z6_0_ 0 p426 q426; obtain rfl : ad405 = ad426 := (by injection e426); have qi426 : (0 < (rd_L2 t332 x543_7).length) = True := eq_true (by omega); (try rw [show ((0 : Int)).toNat = 0 from rfl] at hx426_0); (try rw [Addr.add_zero'] at hx426_0); replace p426 := eq_true p426; replace q426 := eq_true q426)); try go_wp2_with (first | (go_at_call 19; (with_reducible refine (impl_SumOfHouses.calls 1 (wrap64 ((rd (rd_L2 t332 x543_7) 0) - 2)) 2 t423 true _ A160.out).mono ?_); rintro e w' ⟨rfl, ⟨nd, rfl⟩⟩; (try first | exact ⟨rfl, _, World.drewN_drewN _ _ _⟩ | exact ⟨rfl, _, Eq.trans (World.drewN_drewN _ _ _) (congrArg (World.drewN _) (Nat.add_assoc _ _ _))⟩); have p425 : 0 ≤ (1 : Int) := (by omega); have q425 : 1 < ((rd_L2 t332 x543_7).length : Int) := of_decide_eq_true z6_1_; obtain ⟨ad425, e425, hx425_0⟩ := Kd.at_int z6_0_ 1 p425 q425; obtain rfl : ad405 = ad425 := (by injection e425); (try simp only [show (1 : Int).toNat = 1 from rfl, Nat.reduceMul, Nat.reduceEqDiff, Go.Addr.add, ↓reduceIte] at hx425_0); have qi425 : (1 < (rd_L2 t332 x543_7).length) = True := eq_true (by omega); (try rw [show ((1 : Int)).toNat = 1 from rfl] at hx425_0); replace p425 := eq_true p425; replace q425 := eq_true q425; have p426 : 0 ≤ (0 : Int) := (by omega); have q426 : 0 < ((rd_L2 t332 x543_7).length : Int) := of_decide_eq_true z6_1_; obtain ⟨ad426, e426, hx426_0⟩ := Kd.at_int z6_0_ 0 p426 q426; obtain rfl : ad405 = ad426 := (by injection e426); have qi426 : (0 < (rd_L2 t332 x543_7).length) = True := eq_true (by omega); (try rw [show ((0 : Int)).toNat = 0 from rfl] at hx426_0); (try rw [Addr.add_zero'] at hx426_0); replace p426 := eq_true p426; replace q426 := eq_true q426)))
                                     go_roundg k7
                                     case measure => have := HJ12.out; have := HJ27.out; have := HJ37.out; have := HJ44.out; have := HK5.out; have := HJ128.out; have := HK7.out; omega
                                     case rel => exact ⟨(wrap64 (x543_7 + 1)), z6_7_, H', ⟨by have := HJ12.out; have := HJ27.out; have := HJ37.out; have := HJ44.out; have := HK5.out; have := HJ128.out; have := HK7.out; omega⟩, ⟨by (with_reducible repeat (first | apply Kd.S_alloc | apply Kd.S_drewN | apply Kd.S_drew)); exact HO_34.out⟩, ⟨by (with_reducible repeat (first | apply Kd.S_alloc | apply Kd.S_drewN | apply Kd.S_drew)); exact HO_541.out⟩, ⟨by repeat (first | (with_reducible first | exact HB.out | apply below_alloc | apply pw_below_drewN | apply below_drew1) | exact HB.out)⟩⟩
                                  replace c166 := Bool.eq_false_iff.mpr c166
                                  subst c166
                                  rw [if_neg (show ¬ (false = true) by decide)] at H
                                  as_aux_lemma =>
                                   exact Bool.noConfusion ((Option.some.inj H).trans hr_.out)
                                rw [if_neg c159] at H
                                have c159b0 : decide (1 < (rd (rd_L2 t332 x543_7) 0)) = false := decide_eq_false c159
                                clear c159
                                as_aux_lemma =>
                                 have H' := Aside0.mk H
                                 clear H
                                 have p398 : 0 ≤ (x543_7 : Int) := of_decide_eq_true z6_1_
                                 have q398 : x543_7 < (t332.length : Int) := of_decide_eq_true z6_1_
                                 obtain ⟨ad398, A398_0, c398_0, e398, hx398_0, hl398_0, hi398_0⟩ := at_L2 (Kd.S_reads' HO_541.out).2.2 x543_7 p398 q398
                                 cases e398
                                 obtain ⟨ce398, hce398, hMe398, hcc398⟩ := Kd.S_get HO_541.out [] x543_7 p398 z6_12_
                                 obtain ⟨ve398_0, rfl, ge398_0⟩ := hMe398
                                 have hv398_0 := hcc398 0 _ rfl
                                 rw [Nat.add_zero, show ((Kd.slice 3 (Kd.int .i64))).sz = 1 from rfl, Nat.mul_one] at hv398_0
                                 replace hv398_0 := Option.some.inj (hv398_0.symm.trans hx398_0)
                                 rw [hv398_0] at ge398_0
                                 have HL398_0 := Aside0.mk (show Kd.R (Kd.int .i64) 3 _ _ _ _ (rd_L2 t332 x543_7) from ge398_0)
                                 clear hv398_0 ge398_0
                                 clear hcc398 hce398
                                 have HR398_0 := Aside0.mk hi398_0
                                 have HC398_0 := Aside0.mk hl398_0
                                 clear hi398_0 hl398_0
                                 replace p398 := eq_true p398
                                 replace q398 := eq_true q398
                                 have p405 : 0 ≤ (0 : Int) := (by omega)
                                 have q405 : 0 < ((rd_L2 t332 x543_7).length : Int) := of_decide_eq_true z6_1_
                                 obtain ⟨ad405, e405, hx405_0⟩ := Kd.at_int z6_0_ 0 p405 q405
                                 cases e405
                                 have qi405 : (0 < (rd_L2 t332 x543_7).length) = True := eq_true (by omega)
                                 (try rw [show ((0 : Int)).toNat = 0 from rfl] at hx405_0)
                                 (try rw [Addr.add_zero'] at hx405_0)
                                 replace p405 := eq_true p405
                                 replace q405 := eq_true q405
                                 have p406 : 0 ≤ (1 : Int) := (by omega)
                                 have q406 : 1 < ((rd_L2 t332 x543_7).length : Int) := of_decide_eq_true z6_1_
                                 obtain ⟨ad406, e406, hx406_0⟩ := Kd.at_int z6_0_ 1 p406 q406
                                 obtain rfl : ad405 = ad406 := (by injection e406)
                                 (try simp only [show (1 : Int).toNat = 1 from rfl, Nat.reduceMul, Nat.reduceEqDiff, Go.Addr.add, ↓reduceIte] at hx406_0)
                                 have qi406 : (1 < (rd_L2 t332 x543_7).length) = True := eq_true (by omega)
                                 (try rw [show ((1 : Int)).toNat = 1 from rfl] at hx406_0)
                                 replace p406 := eq_true p406
                                 replace q406 := eq_true q406
                                 have p407 : 0 ≤ (1 : Int) := (by omega)
                                 have q407 : 1 < ((rd_L2 t332 x543_7).length : Int) := of_decide_eq_true z6_1_
                                 obtain ⟨ad407, e407, hx407_0⟩ := Kd.at_int z6_0_ 1 p407 q407
                                 obtain rfl : ad405 = ad407 := (by injection e407)
                                 (try simp only [show (1 : Int).toNat = 1 from rfl, Nat.reduceMul, Nat.reduceEqDiff, Go.Addr.add, ↓reduceIte] at hx407_0)
                                 have qi407 : (1 < (rd_L2 t332 x543_7).length) = True := eq_true (by omega)
                                 (try rw [show ((1 : Int)).toNat = 1 from rfl] at hx407_0)
                                 replace p407 := eq_true p407
                                 replace q407 := eq_true q407
                                 have p421 : 0 ≤ (0 : Int) := (by omega)
                                 have q421 : 0 < ((rd_L2 t332 x543_7).length : Int) := of_decide_eq_true z6_1_
                                 obtain ⟨ad421, e421, hx421_0⟩ := Kd.at_int z6_0_ 0 p421 q421
                                 obtain rfl : ad405 = ad421 := (by injection e421)
                                 have qi421 : (0 < (rd_L2 t332 x543_7).length) = True := eq_true (by omega)
                                 (try rw [show ((0 : Int)).toNat = 0 from rfl] at hx421_0)
                                 (try rw [Addr.add_zero'] at hx421_0)
                                 replace p421 := eq_true p421
                                 replace q421 := eq_true q421
                                 go_wp2
                                 repeat (go_quiet (fail); try go_wp2)
                                 go_roundg k7
                                 case measure => have := HJ12.out; have := HJ27.out; have := HJ37.out; have := HJ44.out; have := HK5.out; have := HJ128.out; have := HK7.out; omega
                                 case rel => exact ⟨(wrap64 (x543_7 + 1)), z6_7_, H', ⟨by have := HJ12.out; have := HJ27.out; have := HJ37.out; have := HJ44.out; have := HK5.out; have := HJ128.out; have := HK7.out; omega⟩, ⟨by (with_reducible repeat (first | apply Kd.S_alloc | apply Kd.S_drewN | apply Kd.S_drew)); exact HO_34.out⟩, ⟨by (with_reducible repeat (first | apply Kd.S_alloc | apply Kd.S_drewN | apply Kd.S_drew)); exact HO_541.out⟩, ⟨by repeat (first | (with_reducible first | exact HB.out | apply below_alloc | apply pw_below_drewN | apply below_drew1) | exact HB.out)⟩⟩
                              rw [if_neg c135] at H
                              have c135b0 : decide (x543_7 < (t332.length : Int)) = false := decide_eq_false c135
                              clear c135
                              as_aux_lemma =>
                               have H' := Aside0.mk H
                               clear H
                               go_wp2
                               repeat (go_quiet (fail); try go_wp2)
                               go_meet
                               case rel => exact ⟨_, H', ⟨by have := HJ12.out; have := HJ27.out; have := HJ37.out; have := HJ44.out; have := HK5.out; have := HJ128.out; have := HK7.out; first | omega | exact Nat.le_refl _⟩, ⟨by repeat (first | (with_reducible first | exact HB.out | apply below_alloc | apply pw_below_drewN | apply below_drew1) | exact HB.out)⟩⟩
                     replace c105 := Bool.eq_false_iff.mpr c105
                     subst c105
                     rw [if_neg (show ¬ (false = true) by decide)] at H
                     as_aux_lemma =>
                      have H' := Aside0.mk H
                      clear H
                      go_wp2
                      repeat (go_quiet (fail); try go_wp2)
                      go_meet
                      case rel => exact ⟨_, H', ⟨by have := HJ12.out; have := HJ27.out; have := HJ37.out; have := HJ44.out; first | omega | exact Nat.le_refl _⟩, ⟨by repeat (first | (with_reducible first | exact HB.out | apply below_alloc | apply pw_below_drewN | apply below_drew1) | exact HB.out)⟩⟩
                   case rest =>
                    as_aux_lemma =>
                     clear HC89
                     (try clear c1);(try clear p2);(try clear c3);(try clear p3);(try clear q3);(try clear hx3);(try clear c4);(try clear p4);(try clear q4);(try clear hx4);(try clear qi4);(try clear p6);(try clear c10);(try clear c13);(try clear c14);(try clear c15);(try clear c16);(try clear c39);(try clear p39);(try clear q39);(try clear hx39);(try clear c40);(try clear p40);(try clear q40);(try clear hx40);(try clear qi40);(try clear p41);(try clear q41);(try clear hx41);(try clear qi41);(try clear p42);(try clear q42);(try clear hx42);(try clear qi42);(try clear p64);(try clear c105);(try clear c106);(try clear c135);(try clear c135b0);(try clear c136);(try clear c137);(try clear c138);(try clear c139);(try clear c140);(try clear c141);(try clear c142);(try clear c144);(try clear c144b0);(try clear c146);(try clear c147);(try clear c148);(try clear c150);(try clear c150b0);(try clear c152);(try clear c152b0);(try clear c154);(try clear c155);(try clear c156);(try clear c157);(try clear c158);(try clear c158b0);(try clear c158b1);(try clear c159);(try clear c159b0);(try clear c161);(try clear c161b0);(try clear c163);(try clear c164);(try clear c165);(try clear c165b0);(try clear c165b1);(try clear c166);(try clear c167);(try clear c167b0);(try clear c167b1);(try clear hx398_0);(try clear hx405_0);(try clear hx406_0);(try clear hx407_0);(try clear hx408_0);(try clear hx409_0);(try clear hx410_0);(try clear hx411_0);(try clear hx412_0);(try clear hx415_0);(try clear hx416_0);(try clear hx417_0);(try clear hx418_0);(try clear hx421_0);(try clear hx422_0);(try clear hx425_0);(try clear hx426_0);(try clear hx427_0);(try clear hx428_0);(try clear p398);(try clear p405);(try clear p406);(try clear p407);(try clear p408);(try clear p409);(try clear p410);(try clear p411);(try clear p412);(try clear p415);(try clear p416);(try clear p417);(try clear p418);(try clear p421);(try clear p422);(try clear p425);(try clear p426);(try clear p427);(try clear p428);(try clear q398);(try clear q405);(try clear q406);(try clear q407);(try clear q408);(try clear q409);(try clear q410);(try clear q411);(try clear q412);(try clear q415);(try clear q416);(try clear q417);(try clear q418);(try clear q421);(try clear q422);(try clear q425);(try clear q426);(try clear q427);(try clear q428)
                     obtain ⟨kq, HA, HJ88, HB⟩ := hcut
                     cases kq with
                     | zero => exact absurd HA.out (by simp [laws_FnHousesBalance.j8])
                     | succ kj88 =>
                      have H := HA.out
                      clear HA
                      simp only [laws_FnHousesBalance.j8] at H
                      by_cases c168 : t352 = true
                      · subst c168
                        rw [if_pos rfl] at H
                        replace H := Option.bind_eq_some_iff.mp H
                        obtain ⟨⟨t431, t432⟩, A1690, H⟩ := H
                        dsimp only at H
                        have A169 := Aside0.mk A1690
                        clear A1690
                        by_cases c170 : t432 = true
                        · subst c170
                          rw [if_pos rfl] at H
                          by_cases c171 : (wrap64 ((wrap64 (t351 + t350)) + t355)) = t431
                          rotate_left
                          · exact dead_ (if_neg c171) H hr_
                          rw [if_pos c171] at H
                          have c171b0 : ((wrap64 ((wrap64 (t351 + t350)) + t355)) == t431) = true := beq_iff_eq.mpr c171
                          have c171b1 : ((wrap64 ((wrap64 (t351 + t350)) + t355)) != t431) = false := bne_eq_false_iff_eq.mpr c171
                          clear c171
                          by_cases c172 : t363 = true
                          · subst c172
                            rw [if_pos rfl] at H
                            by_cases c173 : (wrap64 (t359 + t361)) ≤ t360
                            · rw [if_pos c173] at H
                              have c173b0 : decide ((wrap64 (t359 + t361)) ≤ t360) = true := decide_eq_true c173
                              clear c173
                              replace H := Option.bind_eq_some_iff.mp H
                              obtain ⟨⟨t433, t434⟩, A1740, H⟩ := H
                              dsimp only at H
                              have A174 := Aside0.mk A1740
                              clear A1740
                              by_cases c175 : t434 = true
                              · subst c175
                                rw [if_pos rfl] at H
                                by_cases c176 : (wrap64 (t433 + t359)) = t362
                                rotate_left
                                · exact dead_ (if_neg c176) H hr_
                                rw [if_pos c176] at H
                                have c176b0 : ((wrap64 (t433 + t359)) == t362) = true := beq_iff_eq.mpr c176
                                have c176b1 : ((wrap64 (t433 + t359)) != t362) = false := bne_eq_false_iff_eq.mpr c176
                                clear c176
                                as_aux_lemma =>
                                 obtain rfl := Option.some.inj H
                                 go_wp2_with (first | (go_at_call 19; (with_reducible refine (impl_SumOfHouses.calls t348 t349 1 t431 true _ A169.out).mono ?_); rintro e w' ⟨rfl, ⟨nd, rfl⟩⟩; (try first | exact ⟨rfl, _, World.drewN_drewN _ _ _⟩ | exact ⟨rfl, _, Eq.trans (World.drewN_drewN _ _ _) (congrArg (World.drewN _) (Nat.add_assoc _ _ _))⟩)) | (go_at_call 19; (with_reducible refine (impl_SumOfHouses.calls (wrap64 (t359 + t361)) t360 t361 t433 true _ A174.out).mono ?_); rintro e w' ⟨rfl, ⟨nd, rfl⟩⟩; (try first | exact ⟨rfl, _, World.drewN_drewN _ _ _⟩ | exact ⟨rfl, _, Eq.trans (World.drewN_drewN _ _ _) (congrArg (World.drewN _) (Nat.add_assoc _ _ _))⟩)))
                                 repeat (go_quiet (first | (go_at_call 19; (with_reducible refine (impl_SumOfHouses.calls t348 t349 1 t431 true _ A169.out).mono ?_); rintro e w' ⟨rfl, ⟨nd, rfl⟩⟩; (try first | exact ⟨rfl, _, World.drewN_drewN _ _ _⟩ | exact ⟨rfl, _, Eq.trans (World.drewN_drewN _ _ _) (congrArg (World.drewN _) (Nat.add_assoc _ _ _))⟩)) | (go_at_call 19; (with_reducible refine (impl_SumOfHouses.calls (wrap64 (t359 + t361)) t360 t361 t433 true _ A174.out).mono ?_); rintro e w' ⟨rfl, ⟨nd, rfl⟩⟩; (try first | exact ⟨rfl, _, World.drewN_drewN _ _ _⟩ | exact ⟨rfl, _, Eq.trans (World.drewN_drewN _ _ _) (congrArg (World.drewN _) (Nat.add_assoc _ _ _))⟩))); try go_wp2_with (first | (go_at_call 19; (with_reducible refine (impl_SumOfHouses.calls t348 t349 1 t431 true _ A169.out).mono ?_); rintro e w' ⟨rfl, ⟨nd, rfl⟩⟩; (try first | exact ⟨rfl, _, World.drewN_drewN _ _ _⟩ | exact ⟨rfl, _, Eq.trans (World.drewN_drewN _ _ _) (congrArg (World.drewN _) (Nat.add_assoc _ _ _))⟩)) | (go_at_call 19; (with_reducible refine (impl_SumOfHouses.calls (wrap64 (t359 + t361)) t360 t361 t433 true _ A174.out).mono ?_); rintro e w' ⟨rfl, ⟨nd, rfl⟩⟩; (try first | exact ⟨rfl, _, World.drewN_drewN _ _ _⟩ | exact ⟨rfl, _, Eq.trans (World.drewN_drewN _ _ _) (congrArg (World.drewN _) (Nat.add_assoc _ _ _))⟩))))
                                 go_ret
                                 exact ⟨by first | rfl | (simp [errW_none, errW_some] <;> rfl) | (simp [*, errW_none, errW_some] <;> rfl), by repeat (first | (with_reducible first | exact HB.out | apply below_alloc | apply pw_below_drewN | apply below_drew1) | exact HB.out)⟩
                              replace c175 := Bool.eq_false_iff.mpr c175
                              subst c175
                              rw [if_neg (show ¬ (false = true) by decide)] at H
                              as_aux_lemma =>
                               exact Bool.noConfusion ((Option.some.inj H).trans hr_.out)
                            rw [if_neg c173] at H
                            have c173b0 : decide ((wrap64 (t359 + t361)) ≤ t360) = false := decide_eq_false c173
                            clear c173
                            as_aux_lemma =>
                             obtain rfl := Option.some.inj H
                             go_wp2_with (first | (go_at_call 19; (with_reducible refine (impl_SumOfHouses.calls t348 t349 1 t431 true _ A169.out).mono ?_); rintro e w' ⟨rfl, ⟨nd, rfl⟩⟩; (try first | exact ⟨rfl, _, World.drewN_drewN _ _ _⟩ | exact ⟨rfl, _, Eq.trans (World.drewN_drewN _ _ _) (congrArg (World.drewN _) (Nat.add_assoc _ _ _))⟩)))
                             repeat (go_quiet (first | (go_at_call 19; (with_reducible refine (impl_SumOfHouses.calls t348 t349 1 t431 true _ A169.out).mono ?_); rintro e w' ⟨rfl, ⟨nd, rfl⟩⟩; (try first | exact ⟨rfl, _, World.drewN_drewN _ _ _⟩ | exact ⟨rfl, _, Eq.trans (World.drewN_drewN _ _ _) (congrArg (World.drewN _) (Nat.add_assoc _ _ _))⟩))); try go_wp2_with (first | (go_at_call 19; (with_reducible refine (impl_SumOfHouses.calls t348 t349 1 t431 true _ A169.out).mono ?_); rintro e w' ⟨rfl, ⟨nd, rfl⟩⟩; (try first | exact ⟨rfl, _, World.drewN_drewN _ _ _⟩ | exact ⟨rfl, _, Eq.trans (World.drewN_drewN _ _ _) (congrArg (World.drewN _) (Nat.add_assoc _ _ _))⟩))))
                             go_ret
                             exact ⟨by first | rfl | (simp [errW_none, errW_some] <;> rfl) | (simp [*, errW_none, errW_some] <;> rfl), by repeat (first | (with_reducible first | exact HB.out | apply below_alloc | apply pw_below_drewN | apply below_drew1) | exact HB.out)⟩
                          replace c172 := Bool.eq_false_iff.mpr c172
                          subst c172
                          rw [if_neg (show ¬ (false = true) by decide)] at H
                          as_aux_lemma =>
                           obtain rfl := Option.some.inj H
                           go_wp2_with (first | (go_at_call 19; (with_reducible refine (impl_SumOfHouses.calls t348 t349 1 t431 true _ A169.out).mono ?_); rintro e w' ⟨rfl, ⟨nd, rfl⟩⟩; (try first | exact ⟨rfl, _, World.drewN_drewN _ _ _⟩ | exact ⟨rfl, _, Eq.trans (World.drewN_drewN _ _ _) (congrArg (World.drewN _) (Nat.add_assoc _ _ _))⟩)))
                           repeat (go_quiet (first | (go_at_call 19; (with_reducible refine (impl_SumOfHouses.calls t348 t349 1 t431 true _ A169.out).mono ?_); rintro e w' ⟨rfl, ⟨nd, rfl⟩⟩; (try first | exact ⟨rfl, _, World.drewN_drewN _ _ _⟩ | exact ⟨rfl, _, Eq.trans (World.drewN_drewN _ _ _) (congrArg (World.drewN _) (Nat.add_assoc _ _ _))⟩))); try go_wp2_with (first | (go_at_call 19; (with_reducible refine (impl_SumOfHouses.calls t348 t349 1 t431 true _ A169.out).mono ?_); rintro e w' ⟨rfl, ⟨nd, rfl⟩⟩; (try first | exact ⟨rfl, _, World.drewN_drewN _ _ _⟩ | exact ⟨rfl, _, Eq.trans (World.drewN_drewN _ _ _) (congrArg (World.drewN _) (Nat.add_assoc _ _ _))⟩))))
                           go_ret
                           exact ⟨by first | rfl | (simp [errW_none, errW_some] <;> rfl) | (simp [*, errW_none, errW_some] <;> rfl), by repeat (first | (with_reducible first | exact HB.out | apply below_alloc | apply pw_below_drewN | apply below_drew1) | exact HB.out)⟩
                        replace c170 := Bool.eq_false_iff.mpr c170
                        subst c170
                        rw [if_neg (show ¬ (false = true) by decide)] at H
                        as_aux_lemma =>
                         exact Bool.noConfusion ((Option.some.inj H).trans hr_.out)
                      replace c168 := Bool.eq_false_iff.mpr c168
                      subst c168
                      rw [if_neg (show ¬ (false = true) by decide)] at H
                      by_cases c177 : t363 = true
                      · subst c177
                        rw [if_pos rfl] at H
                        by_cases c178 : (wrap64 (t359 + t361)) ≤ t360
                        · rw [if_pos c178] at H
                          have c178b0 : decide ((wrap64 (t359 + t361)) ≤ t360) = true := decide_eq_true c178
                          clear c178
                          replace H := Option.bind_eq_some_iff.mp H
                          obtain ⟨⟨t435, t436⟩, A1790, H⟩ := H
                          dsimp only at H
                          have A179 := Aside0.mk A1790
                          clear A1790
                          by_cases c180 : t436 = true
                          · subst c180
                            rw [if_pos rfl] at H
                            by_cases c181 : (wrap64 (t435 + t359)) = t362
                            rotate_left
                            · exact dead_ (if_neg c181) H hr_
                            rw [if_pos c181] at H
                            have c181b0 : ((wrap64 (t435 + t359)) == t362) = true := beq_iff_eq.mpr c181
                            have c181b1 : ((wrap64 (t435 + t359)) != t362) = false := bne_eq_false_iff_eq.mpr c181
                            clear c181
                            as_aux_lemma =>
                             obtain rfl := Option.some.inj H
                             go_wp2_with (first | (go_at_call 19; (with_reducible refine (impl_SumOfHouses.calls (wrap64 (t359 + t361)) t360 t361 t435 true _ A179.out).mono ?_); rintro e w' ⟨rfl, ⟨nd, rfl⟩⟩; (try first | exact ⟨rfl, _, World.drewN_drewN _ _ _⟩ | exact ⟨rfl, _, Eq.trans (World.drewN_drewN _ _ _) (congrArg (World.drewN _) (Nat.add_assoc _ _ _))⟩)))
                             repeat (go_quiet (first | (go_at_call 19; (with_reducible refine (impl_SumOfHouses.calls (wrap64 (t359 + t361)) t360 t361 t435 true _ A179.out).mono ?_); rintro e w' ⟨rfl, ⟨nd, rfl⟩⟩; (try first | exact ⟨rfl, _, World.drewN_drewN _ _ _⟩ | exact ⟨rfl, _, Eq.trans (World.drewN_drewN _ _ _) (congrArg (World.drewN _) (Nat.add_assoc _ _ _))⟩))); try go_wp2_with (first | (go_at_call 19; (with_reducible refine (impl_SumOfHouses.calls (wrap64 (t359 + t361)) t360 t361 t435 true _ A179.out).mono ?_); rintro e w' ⟨rfl, ⟨nd, rfl⟩⟩; (try first | exact ⟨rfl, _, World.drewN_drewN _ _ _⟩ | exact ⟨rfl, _, Eq.trans (World.drewN_drewN _ _ _) (congrArg (World.drewN _) (Nat.add_assoc _ _ _))⟩))))
                             go_ret
                             exact ⟨by first | rfl | (simp [errW_none, errW_some] <;> rfl) | (simp [*, errW_none, errW_some] <;> rfl), by repeat (first | (with_reducible first | exact HB.out | apply below_alloc | apply pw_below_drewN | apply below_drew1) | exact HB.out)⟩
                          replace c180 := Bool.eq_false_iff.mpr c180
                          subst c180
                          rw [if_neg (show ¬ (false = true) by decide)] at H
                          as_aux_lemma =>
                           exact Bool.noConfusion ((Option.some.inj H).trans hr_.out)
                        rw [if_neg c178] at H
                        have c178b0 : decide ((wrap64 (t359 + t361)) ≤ t360) = false := decide_eq_false c178
                        clear c178
                        as_aux_lemma =>
                         obtain rfl := Option.some.inj H
                         go_wp2
                         repeat (go_quiet (fail); try go_wp2)
                         go_ret
                         exact ⟨by first | rfl | (simp [errW_none, errW_some] <;> rfl) | (simp [*, errW_none, errW_some] <;> rfl), by repeat (first | (with_reducible first | exact HB.out | apply below_alloc | apply pw_below_drewN | apply below_drew1) | exact HB.out)⟩
                      replace c177 := Bool.eq_false_iff.mpr c177
                      subst c177
                      rw [if_neg (show ¬ (false = true) by decide)] at H
                      as_aux_lemma =>
                       obtain rfl := Option.some.inj H
                       go_wp2
                       repeat (go_quiet (fail); try go_wp2)
                       go_ret
                       exact ⟨by first | rfl | (simp [errW_none, errW_some] <;> rfl) | (simp [*, errW_none, errW_some] <;> rfl), by repeat (first | (with_reducible first | exact HB.out | apply below_alloc | apply pw_below_drewN | apply below_drew1) | exact HB.out)⟩
                 replace c79 := Bool.eq_false_iff.mpr c79
                 subst c79
                 rw [if_neg (show ¬ (false = true) by decide)] at H
                 as_aux_lemma =>
                  exact Bool.noConfusion ((Option.some.inj H).trans hr_.out)
               replace c76 := Bool.eq_false_iff.mpr c76
               subst c76
               rw [if_neg (show ¬ (false = true) by decide)] at H
               as_aux_lemma =>
                exact Bool.noConfusion ((Option.some.inj H).trans hr_.out)
             replace c73 := Bool.eq_false_iff.mpr c73
             subst c73
             rw [if_neg (show ¬ (false = true) by decide)] at H
             as_aux_lemma =>
              exact Bool.noConfusion ((Option.some.inj H).trans hr_.out)

/-- THE ONE PURE STATEMENT of laws_FnHousesBalance: yours. -/
def laws_FnHousesBalance.Pure : Prop := ∀ (l0 : List Int) (l1 : List Int), l0.length ≤ maxLen → l0.length * 1 ≤ 140737488351232 → (∀ x ∈ l0, (Lit.int .u8 x).wf = true) → l1.length ≤ maxLen → l1.length * 1 ≤ 140737488351232 → (∀ x ∈ l1, (Lit.int .u8 x).wf = true) → ∃ k, laws_FnHousesBalance.f k l0 l1 = some true
theorem laws_FnHousesBalance.walk (P : laws_FnHousesBalance.Pure) (a0 : Option Addr) (len0 cap0 : Nat) (z0 : List Int) (a1 : Option Addr) (len1 cap1 : Nat) (z1 : List Int) (w : World) (w0 : (a0 = none ∧ len0 = 0 ∧ cap0 = 0 ∧ z0 = []) ∨ ∃ x, a0 = some x ∧ len0 ≤ cap0 ∧ cap0 ≤ maxLen ∧ z0.length = cap0 ∧ (∀ i, i < z0.length → w.cell? (x.add i) = some (.int .u8 (z0.getD i 0))) ∧ ∀ n ∈ z0, (Lit.int .u8 n).wf = true) (y0 : len0 * 1 ≤ 140737488351232) (w1 : (a1 = none ∧ len1 = 0 ∧ cap1 = 0 ∧ z1 = []) ∨ ∃ x, a1 = some x ∧ len1 ≤ cap1 ∧ cap1 ≤ maxLen ∧ z1.length = cap1 ∧ (∀ i, i < z1.length → w.cell? (x.add i) = some (.int .u8 (z1.getD i 0))) ∧ ∀ n ∈ z1, (Lit.int .u8 n).wf = true) (y1 : len1 * 1 ≤ 140737488351232) :
 Calls Try.prog 4 #[.slice a0 len0 cap0, .slice a1 len1 cap1] w fun e w' => e = .returned (.bool true) ∧ Below w.heap.size w w' := by
 obtain ⟨l0, rfl, hr0, hm0, hw0, hc0⟩ := ReadsInt.ofRowC w0
 obtain ⟨l1, rfl, hr1, hm1, hw1, hc1⟩ := ReadsInt.ofRowC w1
 obtain ⟨k, h⟩ := P l0 l1 hm0 y0 hw0 hm1 y1 hw1
 refine (laws_FnHousesBalance.calls k _ _ l0 _ _ l1 true w (Kd.C_of_reads (d := (0 : Int)) (h1 := fun _ => rfl) hr0) hc0 (Kd.C_of_reads (d := (0 : Int)) (h1 := fun _ => rfl) hr1) hc1 (Aside0.mk rfl) h).mono ?_
 rintro e w' ⟨rfl, hd⟩
 exact ⟨rfl, hd⟩

end Go.Proofs.Ytjhmocngcnnfdaa.PFnHousesBalance

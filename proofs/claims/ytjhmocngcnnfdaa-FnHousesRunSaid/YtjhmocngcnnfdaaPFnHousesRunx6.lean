-- Laid by this session's program gprint.py over the kit's print.
import Derived.Test.YtjhmocngcnnfdaaPFnHousesRunx0
import Derived.Test.YtjhmocngcnnfdaaPFnHousesRunx1
import Derived.Test.YtjhmocngcnnfdaaPFnHousesRunx2
import Derived.Test.YtjhmocngcnnfdaaPFnHousesRunx3
import Derived.Test.YtjhmocngcnnfdaaPFnHousesRunx4
import Derived.Test.YtjhmocngcnnfdaaPFnHousesRunx5
namespace Go.Proofs.Ytjhmocngcnnfdaa.PFnHousesRun
open Go.RowKit Go.Proofs.YtjhmocngcnnfdaaW.PrintWords Go.Proofs.YtjhmocngcnnfdaaW.PrintLast Go.Proofs.YtjhmocngcnnfdaaW.PrintMore
attribute [local go_sem] max2_int min2_int max_two min_two max_three min_three max_four min_four   -- for this text's walks alone
set_option linter.unusedVariables false
set_option linter.unusedSimpArgs false
theorem z6_0_ {p : Prop} (h : p := by repeat (first | (with_reducible first | exact HB.out | apply below_alloc | apply pw_below_drewN | apply below_drew1) | exact HB.out)) : p := h
theorem z6_1_ {p : Prop} (h : p := by repeat (first | (with_reducible exact HR333_0.out) | (with_reducible refine Kd.C_alloc ?_ _) | (with_reducible refine Kd.C_drewN ?_ _) | (with_reducible refine Kd.C_drew ?_) | exact HR333_0.out)) : p := h
theorem z6_2_ {p : Prop} (h : p := by repeat (first | (with_reducible exact HR360_0.out) | (with_reducible refine Kd.C_alloc ?_ _) | (with_reducible refine Kd.C_drewN ?_ _) | (with_reducible refine Kd.C_drew ?_) | exact HR360_0.out)) : p := h
theorem z6_3_ {p : Prop} (h : p := by first | (with_reducible assumption) | assumption) : p := h
theorem z6_4_ {p : Prop} (h : p := by (with_reducible repeat (first | apply Kd.N_alloc | apply Kd.N_drewN | apply Kd.N_drew)); exact HO300.out) : p := h
theorem z6_5_ {p : Prop} (h : p := by (with_reducible repeat (first | apply Kd.N_alloc | apply Kd.N_drewN | apply Kd.N_drew)); exact HO303.out) : p := h
theorem z6_6_ {p : Prop} (h : p := by first | rfl | (simp; done) | (simp [*]; done)) : p := h
theorem z6_7_ {p : Prop} (h : p := by (with_reducible repeat (first | apply Kd.N_alloc | apply Kd.N_drewN | apply Kd.N_drew)); exact HO318.out) : p := h

/-! ### laws_FnHousesRun: function 3 -/
mutual
def laws_FnHousesRun.j0 : Nat → List Int → Int → List (List Int) → Bool → Int → Int → Int → List (List Int) → Int → Int → Bool → Option (Bool)
 | 0, _, _, _, _, _, _, _, _, _, _, _ => none
 | k + 1, x1, x5, x6, x7, x10, x14, x15, x20, x24, x25, x219 => if x219 = true then (some false) else (if x7 = true then (if (x6.length : Int) = x10 then (if x24 < 2 then (some false) else (if x25 < 1 then (some false) else (if x25 > x24 then (some false) else (laws_FnHousesRun.l0 k x1 x5 x6 x10 x14 x15 x20 x24 x25 x6 (x6.length : Int) 0)))) else (some false)) else (laws_FnHousesRun.j4 k x1))
def laws_FnHousesRun.j4 : Nat → List Int → Option (Bool)
 | 0, _ => none
 | k + 1, x1 => (spec_DrawStreetOfSum.f x1).bind fun t385 => ((impl_StreetOfSum.f k t385).bind fun bt386 => ((spec_StreetOfSum.f k t385).bind fun bt388 => ((spec_DrawLastForSum.f x1).bind fun bt390 => ((impl_LastForSum.f k bt390.1 bt390.2).bind fun bt392 => ((spec_LastForSum.f k bt390.1 bt390.2).bind fun bt394 => ((spec_DrawOppositeOdd.f x1).bind fun t396 => ((impl_OppositeOdd.f k t396).bind fun bt397 => ((spec_OppositeOdd.f t396).bind fun bt399 => ((spec_DrawOppositeAround.f x1).bind fun bt401 => ((impl_OppositeAround.f bt401.1 bt401.2).bind fun bt403 => ((spec_OppositeAround.f bt401.1 bt401.2).bind fun bt405 => ((impl_NeighbourSums.f k bt401.1 bt401.2).bind fun bt407 => ((spec_NeighbourSums.f k bt401.1 bt401.2).bind fun bt410 => (if (bt386.2 != bt388.2) = true then (some false) else (if bt386.1 = bt388.1 then (if (bt392.2 != bt394.2) = true then (some false) else (if bt392.1 = bt394.1 then (if (bt397.2 != bt399.2) = true then (some false) else (if bt397.1 = bt399.1 then (if (bt403.2 != bt405.2) = true then (some false) else (if bt403.1 = bt405.1 then (if (bt407.2.2 != bt410.2.2) = true then (some false) else (if bt407.1 = bt410.1 then (if bt407.2.1 = bt410.2.1 then (if bt386.2 = true then ((impl_SumOfHouses.f 1 bt386.1 1).bind fun bt413 => (if bt413.2 = true then (if bt413.1 = t385 then (laws_FnHousesRun.j5 k bt390.1 bt390.2 bt392.1 bt392.2 t396 bt397.1 bt397.2 bt401.1 bt401.2 bt403.1 bt403.2 bt407.1 bt407.2.1 bt407.2.2) else (some false)) else (some false))) else (laws_FnHousesRun.j5 k bt390.1 bt390.2 bt392.1 bt392.2 t396 bt397.1 bt397.2 bt401.1 bt401.2 bt403.1 bt403.2 bt407.1 bt407.2.1 bt407.2.2)) else (some false)) else (some false))) else (some false))) else (some false))) else (some false))) else (some false))))))))))))))))
def laws_FnHousesRun.j5 : Nat → Int → Int → Int → Bool → Int → Int → Bool → Int → Int → Int → Bool → Int → Int → Bool → Option (Bool)
 | 0, _, _, _, _, _, _, _, _, _, _, _, _, _, _ => none
 | k + 1, x46, x47, x48, x49, x52, x53, x54, x57, x58, x59, x60, x63, x64, x65 => if x49 = true then ((impl_SumOfHouses.f x46 x48 1).bind fun bt415 => (if bt415.2 = true then (if bt415.1 < x47 then (some false) else (if x48 > x46 then (if (wrap64 (bt415.1 - x48)) ≥ x47 then (some false) else (laws_FnHousesRun.j6 k x52 x53 x54 x57 x58 x59 x60 x63 x64 x65)) else (laws_FnHousesRun.j6 k x52 x53 x54 x57 x58 x59 x60 x63 x64 x65))) else (some false))) else (laws_FnHousesRun.j6 k x52 x53 x54 x57 x58 x59 x60 x63 x64 x65)
def laws_FnHousesRun.j6 : Nat → Int → Int → Bool → Int → Int → Int → Bool → Int → Int → Bool → Option (Bool)
 | 0, _, _, _, _, _, _, _, _, _, _ => none
 | k + 1, x52, x53, x54, x57, x58, x59, x60, x63, x64, x65 => if x54 = true then ((impl_OppositeOdd.f k x53).bind fun bt417 => (if bt417.2 = true then (if bt417.1 = x52 then (if (wrap64 (Int.tdiv (wrap64 (x52 + 1)) 2)) = (wrap64 (Int.tdiv (wrap64 (x53 + 1)) 2)) then (if x52 = x53 then (some false) else (if x60 = true then ((impl_OppositeAround.f x57 x59).bind fun bt419 => (if bt419.2 = true then (if bt419.1 = x58 then (if x59 = x58 then (some false) else (if (wrap64 (x59 + x58)) = (wrap64 (x57 + 1)) then (if x65 = true then (if x64 < 1 then (some false) else (if x64 > 2 then (some false) else (if x64 = 2 then (if x63 = (wrap64 (2 * x58)) then (if x64 = 1 then (if x58 = 1 then (some true) else (if x58 = x57 then (some true) else (some false))) else (some true)) else (some false)) else (if x64 = 1 then (if x58 = 1 then (some true) else (if x58 = x57 then (some true) else (some false))) else (some true))))) else (some true)) else (some false))) else (some false)) else (some false))) else (if x65 = true then (if x64 < 1 then (some false) else (if x64 > 2 then (some false) else (if x64 = 2 then (if x63 = (wrap64 (2 * x58)) then (if x64 = 1 then (if x58 = 1 then (some true) else (if x58 = x57 then (some true) else (some false))) else (some true)) else (some false)) else (if x64 = 1 then (if x58 = 1 then (some true) else (if x58 = x57 then (some true) else (some false))) else (some true))))) else (some true)))) else (some false)) else (some false)) else (some false))) else (if x60 = true then ((impl_OppositeAround.f x57 x59).bind fun bt421 => (if bt421.2 = true then (if bt421.1 = x58 then (if x59 = x58 then (some false) else (if (wrap64 (x59 + x58)) = (wrap64 (x57 + 1)) then (if x65 = true then (if x64 < 1 then (some false) else (if x64 > 2 then (some false) else (if x64 = 2 then (if x63 = (wrap64 (2 * x58)) then (if x64 = 1 then (if x58 = 1 then (some true) else (if x58 = x57 then (some true) else (some false))) else (some true)) else (some false)) else (if x64 = 1 then (if x58 = 1 then (some true) else (if x58 = x57 then (some true) else (some false))) else (some true))))) else (some true)) else (some false))) else (some false)) else (some false))) else (if x65 = true then (if x64 < 1 then (some false) else (if x64 > 2 then (some false) else (if x64 = 2 then (if x63 = (wrap64 (2 * x58)) then (if x64 = 1 then (if x58 = 1 then (some true) else (if x58 = x57 then (some true) else (some false))) else (some true)) else (some false)) else (if x64 = 1 then (if x58 = 1 then (some true) else (if x58 = x57 then (some true) else (some false))) else (some true))))) else (some true)))
def laws_FnHousesRun.l0 : Nat → List Int → Int → List (List Int) → Int → Int → Int → List (List Int) → Int → Int → List (List Int) → Int → Int → Option (Bool)
 | 0, _, _, _, _, _, _, _, _, _, _, _, _ => none
 | k + 1, x1, x5, x6, x10, x14, x15, x20, x24, x25, x238, x239, x240 => if x240 < x239 then (if 0 ≤ x240 then (if x240 < (x238.length : Int) then (if ((rd_L2 x238 x240).length : Int) = 2 then (if 0 < ((rd_L2 x238 x240).length : Int) then (if 1 < ((rd_L2 x238 x240).length : Int) then (if (rd (rd_L2 x238 x240) 0) ≥ (rd (rd_L2 x238 x240) 1) then (some false) else (if x240 > 0 then (if 0 ≤ (wrap64 (x240 - 1)) then (if (wrap64 (x240 - 1)) < (x6.length : Int) then (if 0 < ((rd_L2 x6 (wrap64 (x240 - 1))).length : Int) then (if (rd (rd_L2 x6 (wrap64 (x240 - 1))) 0) ≥ (rd (rd_L2 x238 x240) 0) then (some false) else (if (wrap64 ((rd (rd_L2 x238 x240) 1) - (rd (rd_L2 x238 x240) 0))) > (wrap64 (x15 - x14)) then (some false) else ((impl_SumOfHouses.f (rd (rd_L2 x238 x240) 0) (rd (rd_L2 x238 x240) 1) 1).bind fun bt352 => (if bt352.2 = true then (if bt352.1 = x5 then (laws_FnHousesRun.l0 k x1 x5 x6 x10 x14 x15 x20 x24 x25 x238 x239 (wrap64 (x240 + 1))) else (some false)) else (some false))))) else (none)) else (none)) else (none)) else (if (wrap64 ((rd (rd_L2 x238 x240) 1) - (rd (rd_L2 x238 x240) 0))) > (wrap64 (x15 - x14)) then (some false) else ((impl_SumOfHouses.f (rd (rd_L2 x238 x240) 0) (rd (rd_L2 x238 x240) 1) 1).bind fun bt358 => (if bt358.2 = true then (if bt358.1 = x5 then (laws_FnHousesRun.l0 k x1 x5 x6 x10 x14 x15 x20 x24 x25 x238 x239 (wrap64 (x240 + 1))) else (some false)) else (some false)))))) else (none)) else (none)) else (some false)) else (none)) else (none)) else (laws_FnHousesRun.l1 k x1 x5 x10 x20 x24 x25 x20 (x20.length : Int) 0)
def laws_FnHousesRun.l1 : Nat → List Int → Int → Int → List (List Int) → Int → Int → List (List Int) → Int → Int → Option (Bool)
 | 0, _, _, _, _, _, _, _, _, _ => none
 | k + 1, x1, x5, x10, x20, x24, x25, x305, x306, x307 => if x307 < x306 then (if 0 ≤ x307 then (if x307 < (x305.length : Int) then (if ((rd_L2 x305 x307).length : Int) = 2 then (if 0 < ((rd_L2 x305 x307).length : Int) then (if 1 < ((rd_L2 x305 x307).length : Int) then (if (rd (rd_L2 x305 x307) 0) ≥ (rd (rd_L2 x305 x307) 1) then (some false) else (if (Int.tmod (wrap64 ((rd (rd_L2 x305 x307) 1) - (rd (rd_L2 x305 x307) 0))) 2) = 0 then (if x307 > 0 then (if 0 ≤ (wrap64 (x307 - 1)) then (if (wrap64 (x307 - 1)) < (x20.length : Int) then (if 0 < ((rd_L2 x20 (wrap64 (x307 - 1))).length : Int) then (if (rd (rd_L2 x20 (wrap64 (x307 - 1))) 0) ≥ (rd (rd_L2 x305 x307) 0) then (some false) else ((impl_SumOfHouses.f (rd (rd_L2 x305 x307) 0) (rd (rd_L2 x305 x307) 1) 2).bind fun bt377 => (if bt377.2 = true then (if bt377.1 = x5 then (laws_FnHousesRun.l1 k x1 x5 x10 x20 x24 x25 x305 x306 (wrap64 (x307 + 1))) else (some false)) else (some false)))) else (none)) else (none)) else (none)) else ((impl_SumOfHouses.f (rd (rd_L2 x305 x307) 0) (rd (rd_L2 x305 x307) 1) 2).bind fun bt381 => (if bt381.2 = true then (if bt381.1 = x5 then (laws_FnHousesRun.l1 k x1 x5 x10 x20 x24 x25 x305 x306 (wrap64 (x307 + 1))) else (some false)) else (some false)))) else (some false))) else (none)) else (none)) else (some false)) else (none)) else (none)) else (laws_FnHousesRun.l2 k x1 x5 x10 x24 x25 x5)
def laws_FnHousesRun.l2 : Nat → List Int → Int → Int → Int → Int → Int → Option (Bool)
 | 0, _, _, _, _, _, _ => none
 | k + 1, x1, x5, x10, x24, x25, x38 => if (Int.tmod x38 2) = 0 then (laws_FnHousesRun.l2 k x1 x5 x10 x24 x25 (wrap64 (Int.tdiv x38 2))) else ((impl_SumOfHouses.f 1 x24 1).bind fun bt383 => (if ((x10 == 0) != (x38 == 1)) = true then (some false) else (if bt383.2 = true then (if (wrap64 (bt383.1 - x25)) = x5 then (laws_FnHousesRun.j4 k x1) else (some false)) else (some false))))
end
def laws_FnHousesRun.f (k : Nat) (l0 : List Int) (l1 : List Int) : Option (Bool) := (laws_big.f l0 l1).bind fun t295 => (if t295 = true then (some true) else ((spec_DrawRunsWithSum.f l0).bind fun t296 => ((impl_RunsWithSum.f k t296).bind fun bt297 => ((spec_RunsWithSum.f k t296).bind fun bt301 => ((impl_CountRuns.f k t296).bind fun bt305 => ((spec_CountRuns.f k t296).bind fun bt307 => ((impl_LongestRun.f k t296).bind fun bt309 => ((spec_LongestRun.f k t296).bind fun bt312 => ((impl_RunsOnSide.f k t296).bind fun bt315 => ((spec_RunsOnSide.f k t296).bind fun bt319 => ((impl_MissingHouse.f k t296).bind fun bt323 => ((spec_MissingHouse.f k t296).bind fun bt326 => (if (bt297.2 != bt301.2) = true then (laws_FnHousesRun.j0 k l1 t296 bt297.1 bt297.2 bt305.1 bt309.1 bt309.2.1 bt315.1 bt323.1 bt323.2.1 true) else ((laws_iRows.f k bt297.1 bt301.1).bind fun t331 => (if t331 = true then (if (bt305.2 != bt307.2) = true then (laws_FnHousesRun.j0 k l1 t296 bt297.1 bt297.2 bt305.1 bt309.1 bt309.2.1 bt315.1 bt323.1 bt323.2.1 true) else (if bt305.1 = bt307.1 then (if (bt309.2.2 != bt312.2.2) = true then (laws_FnHousesRun.j0 k l1 t296 bt297.1 bt297.2 bt305.1 bt309.1 bt309.2.1 bt315.1 bt323.1 bt323.2.1 true) else (if bt309.1 = bt312.1 then (if bt309.2.1 = bt312.2.1 then (if (bt315.2 != bt319.2) = true then (laws_FnHousesRun.j0 k l1 t296 bt297.1 bt297.2 bt305.1 bt309.1 bt309.2.1 bt315.1 bt323.1 bt323.2.1 true) else ((laws_iRows.f k bt315.1 bt319.1).bind fun t332 => (if t332 = true then (if (bt323.2.2 != bt326.2.2) = true then (laws_FnHousesRun.j0 k l1 t296 bt297.1 bt297.2 bt305.1 bt309.1 bt309.2.1 bt315.1 bt323.1 bt323.2.1 true) else (if bt323.1 = bt326.1 then (if bt323.2.1 = bt326.2.1 then (if (bt305.2 != bt297.2) = true then (laws_FnHousesRun.j0 k l1 t296 bt297.1 bt297.2 bt305.1 bt309.1 bt309.2.1 bt315.1 bt323.1 bt323.2.1 true) else (if (bt315.2 != bt297.2) = true then (laws_FnHousesRun.j0 k l1 t296 bt297.1 bt297.2 bt305.1 bt309.1 bt309.2.1 bt315.1 bt323.1 bt323.2.1 true) else (if (bt323.2.2 != bt297.2) = true then (laws_FnHousesRun.j0 k l1 t296 bt297.1 bt297.2 bt305.1 bt309.1 bt309.2.1 bt315.1 bt323.1 bt323.2.1 true) else (if bt297.2 = true then (laws_FnHousesRun.j0 k l1 t296 bt297.1 bt297.2 bt305.1 bt309.1 bt309.2.1 bt315.1 bt323.1 bt323.2.1 (bt309.2.2 != (decide (bt305.1 > 0)))) else (laws_FnHousesRun.j0 k l1 t296 bt297.1 bt297.2 bt305.1 bt309.1 bt309.2.1 bt315.1 bt323.1 bt323.2.1 (bt309.2.2 != false)))))) else (laws_FnHousesRun.j0 k l1 t296 bt297.1 bt297.2 bt305.1 bt309.1 bt309.2.1 bt315.1 bt323.1 bt323.2.1 true)) else (laws_FnHousesRun.j0 k l1 t296 bt297.1 bt297.2 bt305.1 bt309.1 bt309.2.1 bt315.1 bt323.1 bt323.2.1 true))) else (laws_FnHousesRun.j0 k l1 t296 bt297.1 bt297.2 bt305.1 bt309.1 bt309.2.1 bt315.1 bt323.1 bt323.2.1 true)))) else (laws_FnHousesRun.j0 k l1 t296 bt297.1 bt297.2 bt305.1 bt309.1 bt309.2.1 bt315.1 bt323.1 bt323.2.1 true)) else (laws_FnHousesRun.j0 k l1 t296 bt297.1 bt297.2 bt305.1 bt309.1 bt309.2.1 bt315.1 bt323.1 bt323.2.1 true))) else (laws_FnHousesRun.j0 k l1 t296 bt297.1 bt297.2 bt305.1 bt309.1 bt309.2.1 bt315.1 bt323.1 bt323.2.1 true))) else (laws_FnHousesRun.j0 k l1 t296 bt297.1 bt297.2 bt305.1 bt309.1 bt309.2.1 bt315.1 bt323.1 bt323.2.1 true))))))))))))))))
theorem laws_FnHousesRun.j0_dead {k : Nat} {x1 : List Int} {x5 : Int} {x6 : List (List Int)} {x7 : Bool} {x10 : Int} {x14 : Int} {x15 : Int} {x20 : List (List Int)} {x24 : Int} {x25 : Int} {r : Bool} {P : Prop} (H : laws_FnHousesRun.j0 k x1 x5 x6 x7 x10 x14 x15 x20 x24 x25 true = some r) (h : Aside0 (r = true)) : P := by
 cases k with
 | zero => exact none_ (by simp only [laws_FnHousesRun.j0]) H
 | succ k => exact dead_ (by simp only [laws_FnHousesRun.j0]; first | exact if_pos rfl | exact if_pos trivial) H h
set_option maxHeartbeats 64000000 in
set_option maxRecDepth 100000 in
theorem laws_FnHousesRun.calls (k : Nat) (A0 : Option Addr) (c0 : Nat) (l0 : List Int) (A1 : Option Addr) (c1 : Nat) (l1 : List Int) (r : Bool) (w : World) (hr0 : Kd.C (Kd.int .u8) w A0 l0.length l0) (hc0 : l0.length ≤ c0) (hr1 : Kd.C (Kd.int .u8) w A1 l1.length l1) (hc1 : l1.length ≤ c1) (hr_ : Aside0 (r = true)) (h : laws_FnHousesRun.f k l0 l1 = some r) :
 Calls Try.prog 3 #[.slice A0 l0.length c0, .slice A1 l1.length c1] w fun e w' => e = .returned (.bool r) ∧ Below w.heap.size w w' := by
 have HR0 := Aside0.mk hr0
 have HC0 := Aside0.mk hc0
 clear hr0 hc0
 have HR1 := Aside0.mk hr1
 have HC1 := Aside0.mk hc1
 clear hr1 hc1
 have HB := Aside0.mk (Below.refl w.heap.size w)
 have H : ((laws_big.f l0 l1).bind fun t295 => (if t295 = true then (some true) else ((spec_DrawRunsWithSum.f l0).bind fun t296 => ((impl_RunsWithSum.f k t296).bind fun bt297 => ((spec_RunsWithSum.f k t296).bind fun bt301 => ((impl_CountRuns.f k t296).bind fun bt305 => ((spec_CountRuns.f k t296).bind fun bt307 => ((impl_LongestRun.f k t296).bind fun bt309 => ((spec_LongestRun.f k t296).bind fun bt312 => ((impl_RunsOnSide.f k t296).bind fun bt315 => ((spec_RunsOnSide.f k t296).bind fun bt319 => ((impl_MissingHouse.f k t296).bind fun bt323 => ((spec_MissingHouse.f k t296).bind fun bt326 => (if (bt297.2 != bt301.2) = true then (laws_FnHousesRun.j0 k l1 t296 bt297.1 bt297.2 bt305.1 bt309.1 bt309.2.1 bt315.1 bt323.1 bt323.2.1 true) else ((laws_iRows.f k bt297.1 bt301.1).bind fun t331 => (if t331 = true then (if (bt305.2 != bt307.2) = true then (laws_FnHousesRun.j0 k l1 t296 bt297.1 bt297.2 bt305.1 bt309.1 bt309.2.1 bt315.1 bt323.1 bt323.2.1 true) else (if bt305.1 = bt307.1 then (if (bt309.2.2 != bt312.2.2) = true then (laws_FnHousesRun.j0 k l1 t296 bt297.1 bt297.2 bt305.1 bt309.1 bt309.2.1 bt315.1 bt323.1 bt323.2.1 true) else (if bt309.1 = bt312.1 then (if bt309.2.1 = bt312.2.1 then (if (bt315.2 != bt319.2) = true then (laws_FnHousesRun.j0 k l1 t296 bt297.1 bt297.2 bt305.1 bt309.1 bt309.2.1 bt315.1 bt323.1 bt323.2.1 true) else ((laws_iRows.f k bt315.1 bt319.1).bind fun t332 => (if t332 = true then (if (bt323.2.2 != bt326.2.2) = true then (laws_FnHousesRun.j0 k l1 t296 bt297.1 bt297.2 bt305.1 bt309.1 bt309.2.1 bt315.1 bt323.1 bt323.2.1 true) else (if bt323.1 = bt326.1 then (if bt323.2.1 = bt326.2.1 then (if (bt305.2 != bt297.2) = true then (laws_FnHousesRun.j0 k l1 t296 bt297.1 bt297.2 bt305.1 bt309.1 bt309.2.1 bt315.1 bt323.1 bt323.2.1 true) else (if (bt315.2 != bt297.2) = true then (laws_FnHousesRun.j0 k l1 t296 bt297.1 bt297.2 bt305.1 bt309.1 bt309.2.1 bt315.1 bt323.1 bt323.2.1 true) else (if (bt323.2.2 != bt297.2) = true then (laws_FnHousesRun.j0 k l1 t296 bt297.1 bt297.2 bt305.1 bt309.1 bt309.2.1 bt315.1 bt323.1 bt323.2.1 true) else (if bt297.2 = true then (laws_FnHousesRun.j0 k l1 t296 bt297.1 bt297.2 bt305.1 bt309.1 bt309.2.1 bt315.1 bt323.1 bt323.2.1 (bt309.2.2 != (decide (bt305.1 > 0)))) else (laws_FnHousesRun.j0 k l1 t296 bt297.1 bt297.2 bt305.1 bt309.1 bt309.2.1 bt315.1 bt323.1 bt323.2.1 (bt309.2.2 != false)))))) else (laws_FnHousesRun.j0 k l1 t296 bt297.1 bt297.2 bt305.1 bt309.1 bt309.2.1 bt315.1 bt323.1 bt323.2.1 true)) else (laws_FnHousesRun.j0 k l1 t296 bt297.1 bt297.2 bt305.1 bt309.1 bt309.2.1 bt315.1 bt323.1 bt323.2.1 true))) else (laws_FnHousesRun.j0 k l1 t296 bt297.1 bt297.2 bt305.1 bt309.1 bt309.2.1 bt315.1 bt323.1 bt323.2.1 true)))) else (laws_FnHousesRun.j0 k l1 t296 bt297.1 bt297.2 bt305.1 bt309.1 bt309.2.1 bt315.1 bt323.1 bt323.2.1 true)) else (laws_FnHousesRun.j0 k l1 t296 bt297.1 bt297.2 bt305.1 bt309.1 bt309.2.1 bt315.1 bt323.1 bt323.2.1 true))) else (laws_FnHousesRun.j0 k l1 t296 bt297.1 bt297.2 bt305.1 bt309.1 bt309.2.1 bt315.1 bt323.1 bt323.2.1 true))) else (laws_FnHousesRun.j0 k l1 t296 bt297.1 bt297.2 bt305.1 bt309.1 bt309.2.1 bt315.1 bt323.1 bt323.2.1 true))))))))))))))))) = some r := h
 clear h
 replace H := Option.bind_eq_some_iff.mp H
 obtain ⟨t295, A30, H⟩ := H
 have A3 := Aside0.mk A30
 clear A30
 by_cases c4 : t295 = true
 · subst c4
   rw [if_pos rfl] at H
   as_aux_lemma =>
    obtain rfl := Option.some.inj H
    go_enter Try.func3, Try.ntmps3
    go_wp2_with (first | (go_at_call 6; (with_reducible refine (laws_big.calls _ _ l0 _ _ l1 true _ ?side1 ?side2 ?side3 ?side4 A3.out).mono ?_); (case side1 => repeat (first | exact HR0.out | (with_reducible refine Kd.C_alloc ?_ _) | (with_reducible refine Kd.C_drewN ?_ _) | (with_reducible refine Kd.C_drew ?_))); (case side2 => exact HC0.out); (case side3 => repeat (first | exact HR1.out | (with_reducible refine Kd.C_alloc ?_ _) | (with_reducible refine Kd.C_drewN ?_ _) | (with_reducible refine Kd.C_drew ?_))); (case side4 => exact HC1.out); rintro e w' ⟨rfl, ⟨nd, rfl⟩⟩; (try first | exact ⟨rfl, _, World.drewN_drewN _ _ _⟩ | exact ⟨rfl, _, Eq.trans (World.drewN_drewN _ _ _) (congrArg (World.drewN _) (Nat.add_assoc _ _ _))⟩)))
    repeat (go_quiet (fail); try go_wp2_with (first | (go_at_call 6; (with_reducible refine (laws_big.calls _ _ l0 _ _ l1 true _ ?side1 ?side2 ?side3 ?side4 A3.out).mono ?_); (case side1 => repeat (first | exact HR0.out | (with_reducible refine Kd.C_alloc ?_ _) | (with_reducible refine Kd.C_drewN ?_ _) | (with_reducible refine Kd.C_drew ?_))); (case side2 => exact HC0.out); (case side3 => repeat (first | exact HR1.out | (with_reducible refine Kd.C_alloc ?_ _) | (with_reducible refine Kd.C_drewN ?_ _) | (with_reducible refine Kd.C_drew ?_))); (case side4 => exact HC1.out); rintro e w' ⟨rfl, ⟨nd, rfl⟩⟩; (try first | exact ⟨rfl, _, World.drewN_drewN _ _ _⟩ | exact ⟨rfl, _, Eq.trans (World.drewN_drewN _ _ _) (congrArg (World.drewN _) (Nat.add_assoc _ _ _))⟩))))
    go_ret
    exact ⟨by first | rfl | (simp [errW_none, errW_some] <;> rfl) | (simp [*, errW_none, errW_some] <;> rfl), by repeat (first | (with_reducible first | exact HB.out | apply below_alloc | apply pw_below_drewN | apply below_drew1) | exact HB.out)⟩
 replace c4 := Bool.eq_false_iff.mpr c4
 subst c4
 rw [if_neg (show ¬ (false = true) by decide)] at H
 as_aux_lemma =>
 replace H := Option.bind_eq_some_iff.mp H
 obtain ⟨t296, A50, H⟩ := H
 have A5 := Aside0.mk A50
 clear A50
 replace H := Option.bind_eq_some_iff.mp H
 obtain ⟨⟨t297, t298⟩, A60, H⟩ := H
 dsimp only at H
 have A6 := Aside0.mk A60
 clear A60
 replace H := Option.bind_eq_some_iff.mp H
 obtain ⟨⟨t301, t304⟩, A70, H⟩ := H
 dsimp only at H
 have A7 := Aside0.mk A70
 clear A70
 replace H := Option.bind_eq_some_iff.mp H
 obtain ⟨⟨t305, t306⟩, A80, H⟩ := H
 dsimp only at H
 have A8 := Aside0.mk A80
 clear A80
 replace H := Option.bind_eq_some_iff.mp H
 obtain ⟨⟨t307, t308⟩, A90, H⟩ := H
 dsimp only at H
 have A9 := Aside0.mk A90
 clear A90
 replace H := Option.bind_eq_some_iff.mp H
 obtain ⟨⟨t309, t310, t311⟩, A100, H⟩ := H
 dsimp only at H
 have A10 := Aside0.mk A100
 clear A100
 as_aux_lemma =>
 replace H := Option.bind_eq_some_iff.mp H
 obtain ⟨⟨t312, t313, t314⟩, A110, H⟩ := H
 dsimp only at H
 have A11 := Aside0.mk A110
 clear A110
 replace H := Option.bind_eq_some_iff.mp H
 obtain ⟨⟨t315, t316⟩, A120, H⟩ := H
 dsimp only at H
 have A12 := Aside0.mk A120
 clear A120
 replace H := Option.bind_eq_some_iff.mp H
 obtain ⟨⟨t319, t322⟩, A130, H⟩ := H
 dsimp only at H
 have A13 := Aside0.mk A130
 clear A130
 replace H := Option.bind_eq_some_iff.mp H
 obtain ⟨⟨t323, t324, t325⟩, A140, H⟩ := H
 dsimp only at H
 have A14 := Aside0.mk A140
 clear A140
 replace H := Option.bind_eq_some_iff.mp H
 obtain ⟨⟨t326, t327, t328⟩, A150, H⟩ := H
 dsimp only at H
 have A15 := Aside0.mk A150
 clear A150
 have HC16 := Aside0.mk H
 clear H
 go_enter Try.func3, Try.ntmps3
 go_upto_region 14 with (first | (go_at_call 6; (with_reducible refine (laws_big.calls _ _ l0 _ _ l1 false _ ?side1 ?side2 ?side3 ?side4 A3.out).mono ?_); (case side1 => repeat (first | exact HR0.out | (with_reducible refine Kd.C_alloc ?_ _) | (with_reducible refine Kd.C_drewN ?_ _) | (with_reducible refine Kd.C_drew ?_))); (case side2 => exact HC0.out); (case side3 => repeat (first | exact HR1.out | (with_reducible refine Kd.C_alloc ?_ _) | (with_reducible refine Kd.C_drewN ?_ _) | (with_reducible refine Kd.C_drew ?_))); (case side4 => exact HC1.out); rintro e w' ⟨rfl, ⟨nd, rfl⟩⟩; (try first | exact ⟨rfl, _, World.drewN_drewN _ _ _⟩ | exact ⟨rfl, _, Eq.trans (World.drewN_drewN _ _ _) (congrArg (World.drewN _) (Nat.add_assoc _ _ _))⟩)) | (go_at_call 7; (with_reducible refine (spec_DrawRunsWithSum.calls _ _ l0 t296 _ ?side1 ?side2 A5.out).mono ?_); (case side1 => repeat (first | exact HR0.out | (with_reducible refine Kd.C_alloc ?_ _) | (with_reducible refine Kd.C_drewN ?_ _) | (with_reducible refine Kd.C_drew ?_))); (case side2 => exact HC0.out); rintro e w17 ⟨rfl, hb⟩; have n0_ := Aside0.mk (below_step z6_0_ hb); clear HB; have HB := n0_; clear n0_; (try clear hb); (try clear hb2); (try clear hk); (try clear hi)) | (go_at_call 8; (with_reducible refine (impl_RunsWithSum.calls k t296 t297 t298 _ A6.out).mono ?_); rintro e w18 ⟨v299, rfl, ho0, hb⟩; have n0_ := Aside0.mk (Kd.N_lower (Kd.N_mono (ok' := fun k_ => True) (Kd.S_N (Kd.S_bound ho0)) (fun k_ hk_ => trivial)) (below_size z6_0_)); have n1_ := Aside0.mk (below_step z6_0_ hb); clear HB; have HO300 := n0_; have HB := n1_; clear n0_ n1_; (try clear hb); (try clear hb2); (try clear hk); (try clear hi); (try clear ho0)) | (go_at_call 9; (with_reducible refine (spec_RunsWithSum.calls k t296 t301 t304 _ A7.out).mono ?_); rintro e w19 ⟨v302, rfl, ho0, hb⟩; have n0_ := Aside0.mk (Kd.N_elder' z6_4_ (by first | exact Kd.N_base ho0 | exact Kd.S_base ho0 | exact Kd.R_base (Kd.S_R ho0)) hb); have n1_ := Aside0.mk (Kd.N_lower (Kd.N_mono (ok' := fun k_ => some k_ ≠ (v299 : Value).ownBlock) ho0 (fun k_ hk_ => (Kd.fresh' (Kd.N_lt z6_4_) k_ hk_))) (below_size z6_0_)); have n2_ := Aside0.mk (below_step z6_0_ hb); clear HO300; clear HB; have HO300 := n0_; have HO303 := n1_; have HB := n2_; clear n0_ n1_ n2_; (try clear hb); (try clear hb2); (try clear hk); (try clear hi); (try clear ho0)) | (go_at_call 10; (with_reducible refine (impl_CountRuns.calls k t296 t305 t306 _ A8.out).mono ?_); rintro e w20 ⟨rfl, hb⟩; have n0_ := Aside0.mk (Kd.N_below z6_4_ hb); have n1_ := Aside0.mk (Kd.N_below z6_5_ hb); have n2_ := Aside0.mk (below_step z6_0_ hb); clear HO300; clear HO303; clear HB; have HO300 := n0_; have HO303 := n1_; have HB := n2_; clear n0_ n1_ n2_; (try clear hb); (try clear hb2); (try clear hk); (try clear hi)) | (go_at_call 11; (with_reducible refine (spec_CountRuns.calls k t296 t307 t308 _ A9.out).mono ?_); rintro e w21 ⟨rfl, hb⟩; have n0_ := Aside0.mk (Kd.N_below z6_4_ hb); have n1_ := Aside0.mk (Kd.N_below z6_5_ hb); have n2_ := Aside0.mk (below_step z6_0_ hb); clear HO300; clear HO303; clear HB; have HO300 := n0_; have HO303 := n1_; have HB := n2_; clear n0_ n1_ n2_; (try clear hb); (try clear hb2); (try clear hk); (try clear hi)) | (go_at_call 12; (with_reducible refine (impl_LongestRun.calls k t296 t309 t310 t311 _ A10.out).mono ?_); rintro e w22 ⟨rfl, hb⟩; have n0_ := Aside0.mk (Kd.N_below z6_4_ hb); have n1_ := Aside0.mk (Kd.N_below z6_5_ hb); have n2_ := Aside0.mk (below_step z6_0_ hb); clear HO300; clear HO303; clear HB; have HO300 := n0_; have HO303 := n1_; have HB := n2_; clear n0_ n1_ n2_; (try clear hb); (try clear hb2); (try clear hk); (try clear hi)) | (go_at_call 13; (with_reducible refine (spec_LongestRun.calls k t296 t312 t313 t314 _ A11.out).mono ?_); rintro e w23 ⟨rfl, hb⟩; have n0_ := Aside0.mk (Kd.N_below z6_4_ hb); have n1_ := Aside0.mk (Kd.N_below z6_5_ hb); have n2_ := Aside0.mk (below_step z6_0_ hb); clear HO300; clear HO303; clear HB; have HO300 := n0_; have HO303 := n1_; have HB := n2_; clear n0_ n1_ n2_; (try clear hb); (try clear hb2); (try clear hk); (try clear hi)) | (go_at_call 14; (with_reducible refine (impl_RunsOnSide.calls k t296 t315 t316 _ A12.out).mono ?_); rintro e w24 ⟨v317, rfl, ho0, hb⟩; have n0_ := Aside0.mk (Kd.N_elder' z6_4_ (by first | exact Kd.N_base ho0 | exact Kd.S_base ho0 | exact Kd.R_base (Kd.S_R ho0)) hb); have n1_ := Aside0.mk (Kd.N_elder' z6_5_ (by first | exact Kd.N_base ho0 | exact Kd.S_base ho0 | exact Kd.R_base (Kd.S_R ho0)) hb); have n2_ := Aside0.mk (Kd.N_lower (Kd.N_mono (ok' := fun k_ => some k_ ≠ (v299 : Value).ownBlock ∧ some k_ ≠ (v302 : Value).ownBlock) (Kd.S_N (Kd.S_bound ho0)) (fun k_ hk_ => ⟨(Kd.fresh' (Kd.N_lt z6_4_) k_ hk_.2.1), (Kd.fresh' (Kd.N_lt z6_5_) k_ hk_.2.1)⟩)) (below_size z6_0_)); have n3_ := Aside0.mk (below_step z6_0_ hb); clear HO300; clear HO303; clear HB; have HO300 := n0_; have HO303 := n1_; have HO318 := n2_; have HB := n3_; clear n0_ n1_ n2_ n3_; (try clear hb); (try clear hb2); (try clear hk); (try clear hi); (try clear ho0)) | (go_at_call 15; (with_reducible refine (spec_RunsOnSide.calls k t296 t319 t322 _ A13.out).mono ?_); rintro e w25 ⟨v320, rfl, ho0, hb⟩; have n0_ := Aside0.mk (Kd.N_elder' z6_4_ (by first | exact Kd.N_base ho0 | exact Kd.S_base ho0 | exact Kd.R_base (Kd.S_R ho0)) hb); have n1_ := Aside0.mk (Kd.N_elder' z6_5_ (by first | exact Kd.N_base ho0 | exact Kd.S_base ho0 | exact Kd.R_base (Kd.S_R ho0)) hb); have n2_ := Aside0.mk (Kd.N_elder' z6_7_ (by first | exact Kd.N_base ho0 | exact Kd.S_base ho0 | exact Kd.R_base (Kd.S_R ho0)) hb); have n3_ := Aside0.mk (Kd.N_lower (Kd.N_mono (ok' := fun k_ => some k_ ≠ (v299 : Value).ownBlock ∧ some k_ ≠ (v302 : Value).ownBlock ∧ some k_ ≠ (v317 : Value).ownBlock) ho0 (fun k_ hk_ => ⟨(Kd.fresh' (Kd.N_lt z6_4_) k_ hk_), (Kd.fresh' (Kd.N_lt z6_5_) k_ hk_), (Kd.fresh' (Kd.N_lt z6_7_) k_ hk_)⟩)) (below_size z6_0_)); have n4_ := Aside0.mk (below_step z6_0_ hb); clear HO300; clear HO303; clear HO318; clear HB; have HO300 := n0_; have HO303 := n1_; have HO318 := n2_; have HO321 := n3_; have HB := n4_; clear n0_ n1_ n2_ n3_ n4_; (try clear hb); (try clear hb2); (try clear hk); (try clear hi); (try clear ho0)) | (go_at_call 16; (with_reducible refine (impl_MissingHouse.calls k t296 t323 t324 t325 _ A14.out).mono ?_); rintro e w' ⟨rfl, ⟨nd, rfl⟩⟩; (try first | exact ⟨rfl, _, World.drewN_drewN _ _ _⟩ | exact ⟨rfl, _, Eq.trans (World.drewN_drewN _ _ _) (congrArg (World.drewN _) (Nat.add_assoc _ _ _))⟩)) | (go_at_call 17; (with_reducible refine (spec_MissingHouse.calls k t296 t326 t327 t328 _ A15.out).mono ?_); rintro e w' ⟨rfl, ⟨nd, rfl⟩⟩; (try first | exact ⟨rfl, _, World.drewN_drewN _ _ _⟩ | exact ⟨rfl, _, Eq.trans (World.drewN_drewN _ _ _) (congrArg (World.drewN _) (Nat.add_assoc _ _ _))⟩)))
 repeat (go_quiet (fail); go_upto_region 14 with (first | (go_at_call 6; (with_reducible refine (laws_big.calls _ _ l0 _ _ l1 false _ ?side1 ?side2 ?side3 ?side4 A3.out).mono ?_); (case side1 => repeat (first | exact HR0.out | (with_reducible refine Kd.C_alloc ?_ _) | (with_reducible refine Kd.C_drewN ?_ _) | (with_reducible refine Kd.C_drew ?_))); (case side2 => exact HC0.out); (case side3 => repeat (first | exact HR1.out | (with_reducible refine Kd.C_alloc ?_ _) | (with_reducible refine Kd.C_drewN ?_ _) | (with_reducible refine Kd.C_drew ?_))); (case side4 => exact HC1.out); rintro e w' ⟨rfl, ⟨nd, rfl⟩⟩; (try first | exact ⟨rfl, _, World.drewN_drewN _ _ _⟩ | exact ⟨rfl, _, Eq.trans (World.drewN_drewN _ _ _) (congrArg (World.drewN _) (Nat.add_assoc _ _ _))⟩)) | (go_at_call 7; (with_reducible refine (spec_DrawRunsWithSum.calls _ _ l0 t296 _ ?side1 ?side2 A5.out).mono ?_); (case side1 => repeat (first | exact HR0.out | (with_reducible refine Kd.C_alloc ?_ _) | (with_reducible refine Kd.C_drewN ?_ _) | (with_reducible refine Kd.C_drew ?_))); (case side2 => exact HC0.out); rintro e w17 ⟨rfl, hb⟩; have n0_ := Aside0.mk (below_step z6_0_ hb); clear HB; have HB := n0_; clear n0_; (try clear hb); (try clear hb2); (try clear hk); (try clear hi)) | (go_at_call 8; (with_reducible refine (impl_RunsWithSum.calls k t296 t297 t298 _ A6.out).mono ?_); rintro e w18 ⟨v299, rfl, ho0, hb⟩; have n0_ := Aside0.mk (Kd.N_lower (Kd.N_mono (ok' := fun k_ => True) (Kd.S_N (Kd.S_bound ho0)) (fun k_ hk_ => trivial)) (below_size z6_0_)); have n1_ := Aside0.mk (below_step z6_0_ hb); clear HB; have HO300 := n0_; have HB := n1_; clear n0_ n1_; (try clear hb); (try clear hb2); (try clear hk); (try clear hi); (try clear ho0)) | (go_at_call 9; (with_reducible refine (spec_RunsWithSum.calls k t296 t301 t304 _ A7.out).mono ?_); rintro e w19 ⟨v302, rfl, ho0, hb⟩; have n0_ := Aside0.mk (Kd.N_elder' z6_4_ (by first | exact Kd.N_base ho0 | exact Kd.S_base ho0 | exact Kd.R_base (Kd.S_R ho0)) hb); have n1_ := Aside0.mk (Kd.N_lower (Kd.N_mono (ok' := fun k_ => some k_ ≠ (v299 : Value).ownBlock) ho0 (fun k_ hk_ => (Kd.fresh' (Kd.N_lt z6_4_) k_ hk_))) (below_size z6_0_)); have n2_ := Aside0.mk (below_step z6_0_ hb); clear HO300; clear HB; have HO300 := n0_; have HO303 := n1_; have HB := n2_; clear n0_ n1_ n2_; (try clear hb); (try clear hb2); (try clear hk); (try clear hi); (try clear ho0)) | (go_at_call 10; (with_reducible refine (impl_CountRuns.calls k t296 t305 t306 _ A8.out).mono ?_); rintro e w20 ⟨rfl, hb⟩; have n0_ := Aside0.mk (Kd.N_below z6_4_ hb); have n1_ := Aside0.mk (Kd.N_below z6_5_ hb); have n2_ := Aside0.mk (below_step z6_0_ hb); clear HO300; clear HO303; clear HB; have HO300 := n0_; have HO303 := n1_; have HB := n2_; clear n0_ n1_ n2_; (try clear hb); (try clear hb2); (try clear hk); (try clear hi)) | (go_at_call 11; (with_reducible refine (spec_CountRuns.calls k t296 t307 t308 _ A9.out).mono ?_); rintro e w21 ⟨rfl, hb⟩; have n0_ := Aside0.mk (Kd.N_below z6_4_ hb); have n1_ := Aside0.mk (Kd.N_below z6_5_ hb); have n2_ := Aside0.mk (below_step z6_0_ hb); clear HO300; clear HO303; clear HB; have HO300 := n0_; have HO303 := n1_; have HB := n2_; clear n0_ n1_ n2_; (try clear hb); (try clear hb2); (try clear hk); (try clear hi)) | (go_at_call 12; (with_reducible refine (impl_LongestRun.calls k t296 t309 t310 t311 _ A10.out).mono ?_); rintro e w22 ⟨rfl, hb⟩; have n0_ := Aside0.mk (Kd.N_below z6_4_ hb); have n1_ := Aside0.mk (Kd.N_below z6_5_ hb); have n2_ := Aside0.mk (below_step z6_0_ hb); clear HO300; clear HO303; clear HB; have HO300 := n0_; have HO303 := n1_; have HB := n2_; clear n0_ n1_ n2_; (try clear hb); (try clear hb2); (try clear hk); (try clear hi)) | (go_at_call 13; (with_reducible refine (spec_LongestRun.calls k t296 t312 t313 t314 _ A11.out).mono ?_); rintro e w23 ⟨rfl, hb⟩; have n0_ := Aside0.mk (Kd.N_below z6_4_ hb); have n1_ := Aside0.mk (Kd.N_below z6_5_ hb); have n2_ := Aside0.mk (below_step z6_0_ hb); clear HO300; clear HO303; clear HB; have HO300 := n0_; have HO303 := n1_; have HB := n2_; clear n0_ n1_ n2_; (try clear hb); (try clear hb2); (try clear hk); (try clear hi)) | (go_at_call 14; (with_reducible refine (impl_RunsOnSide.calls k t296 t315 t316 _ A12.out).mono ?_); rintro e w24 ⟨v317, rfl, ho0, hb⟩; have n0_ := Aside0.mk (Kd.N_elder' z6_4_ (by first | exact Kd.N_base ho0 | exact Kd.S_base ho0 | exact Kd.R_base (Kd.S_R ho0)) hb); have n1_ := Aside0.mk (Kd.N_elder' z6_5_ (by first | exact Kd.N_base ho0 | exact Kd.S_base ho0 | exact Kd.R_base (Kd.S_R ho0)) hb); have n2_ := Aside0.mk (Kd.N_lower (Kd.N_mono (ok' := fun k_ => some k_ ≠ (v299 : Value).ownBlock ∧ some k_ ≠ (v302 : Value).ownBlock) (Kd.S_N (Kd.S_bound ho0)) (fun k_ hk_ => ⟨(Kd.fresh' (Kd.N_lt z6_4_) k_ hk_.2.1), (Kd.fresh' (Kd.N_lt z6_5_) k_ hk_.2.1)⟩)) (below_size z6_0_)); have n3_ := Aside0.mk (below_step z6_0_ hb); clear HO300; clear HO303; clear HB; have HO300 := n0_; have HO303 := n1_; have HO318 := n2_; have HB := n3_; clear n0_ n1_ n2_ n3_; (try clear hb); (try clear hb2); (try clear hk); (try clear hi); (try clear ho0)) | (go_at_call 15; (with_reducible refine (spec_RunsOnSide.calls k t296 t319 t322 _ A13.out).mono ?_); rintro e w25 ⟨v320, rfl, ho0, hb⟩; have n0_ := Aside0.mk (Kd.N_elder' z6_4_ (by first | exact Kd.N_base ho0 | exact Kd.S_base ho0 | exact Kd.R_base (Kd.S_R ho0)) hb); have n1_ := Aside0.mk (Kd.N_elder' z6_5_ (by first | exact Kd.N_base ho0 | exact Kd.S_base ho0 | exact Kd.R_base (Kd.S_R ho0)) hb); have n2_ := Aside0.mk (Kd.N_elder' z6_7_ (by first | exact Kd.N_base ho0 | exact Kd.S_base ho0 | exact Kd.R_base (Kd.S_R ho0)) hb); have n3_ := Aside0.mk (Kd.N_lower (Kd.N_mono (ok' := fun k_ => some k_ ≠ (v299 : Value).ownBlock ∧ some k_ ≠ (v302 : Value).ownBlock ∧ some k_ ≠ (v317 : Value).ownBlock) ho0 (fun k_ hk_ => ⟨(Kd.fresh' (Kd.N_lt z6_4_) k_ hk_), (Kd.fresh' (Kd.N_lt z6_5_) k_ hk_), (Kd.fresh' (Kd.N_lt z6_7_) k_ hk_)⟩)) (below_size z6_0_)); have n4_ := Aside0.mk (below_step z6_0_ hb); clear HO300; clear HO303; clear HO318; clear HB; have HO300 := n0_; have HO303 := n1_; have HO318 := n2_; have HO321 := n3_; have HB := n4_; clear n0_ n1_ n2_ n3_ n4_; (try clear hb); (try clear hb2); (try clear hk); (try clear hi); (try clear ho0)) | (go_at_call 16; (with_reducible refine (impl_MissingHouse.calls k t296 t323 t324 t325 _ A14.out).mono ?_); rintro e w' ⟨rfl, ⟨nd, rfl⟩⟩; (try first | exact ⟨rfl, _, World.drewN_drewN _ _ _⟩ | exact ⟨rfl, _, Eq.trans (World.drewN_drewN _ _ _) (congrArg (World.drewN _) (Nat.add_assoc _ _ _))⟩)) | (go_at_call 17; (with_reducible refine (spec_MissingHouse.calls k t296 t326 t327 t328 _ A15.out).mono ?_); rintro e w' ⟨rfl, ⟨nd, rfl⟩⟩; (try first | exact ⟨rfl, _, World.drewN_drewN _ _ _⟩ | exact ⟨rfl, _, Eq.trans (World.drewN_drewN _ _ _) (congrArg (World.drewN _) (Nat.add_assoc _ _ _))⟩))))
 (try simp only [Act.put, List.setIfInBounds_toArray, List.set_cons_zero, List.set_cons_succ])
 go_cut [219] from 77 to 219 (fun v219 wc => ∃ (kq : Nat) (x219_15 : Bool), v219 = .bool x219_15 ∧ Aside0 (laws_FnHousesRun.j0 kq l1 t296 t297 t298 t305 t309 t310 t315 t323 t324 x219_15 = some r) ∧ Aside0 (kq ≤ k) ∧ Aside0 (Kd.N (Kd.slice 3 (Kd.int .i64)) 33 wc w.heap.size (fun k_ => some k_ ≠ (v317 : Value).ownBlock) v299 t297) ∧ Aside0 (Kd.N (Kd.slice 3 (Kd.int .i64)) 33 wc w.heap.size (fun k_ => some k_ ≠ (v299 : Value).ownBlock) v317 t315) ∧ Aside0 (Below w.heap.size w wc))
 case first =>
  as_aux_lemma =>
  have H := HC16.out
  clear HC16
  by_cases c26 : (t298 != t304) = true
  · exact laws_FnHousesRun.j0_dead ((if_pos c26).symm.trans H) hr_
  rw [if_neg c26] at H
  have c26b0 : (t298 != t304) = false := by simpa using c26
  (try (have c26b1 : decide (t298 = t304) = true := by simpa using c26))
  (try (have c26b2 : (t298 == t304) = true := by simpa using c26))
  clear c26
  (first | rw [c26b0] | (simp only [i64_w, i32_w]; rw [c26b0]) | skip)
  replace H := Option.bind_eq_some_iff.mp H
  obtain ⟨t331, A270, H⟩ := H
  have A27 := Aside0.mk A270
  clear A270
  by_cases c28 : t331 = true
  · subst c28
    rw [if_pos rfl] at H
    by_cases c29 : (t306 != t308) = true
    · exact laws_FnHousesRun.j0_dead ((if_pos c29).symm.trans H) hr_
    rw [if_neg c29] at H
    have c29b0 : (t306 != t308) = false := by simpa using c29
    (try (have c29b1 : decide (t306 = t308) = true := by simpa using c29))
    (try (have c29b2 : (t306 == t308) = true := by simpa using c29))
    clear c29
    by_cases c30 : t305 = t307
    rotate_left
    · exact laws_FnHousesRun.j0_dead ((if_neg c30).symm.trans H) hr_
    rw [if_pos c30] at H
    have c30b0 : (t305 == t307) = true := beq_iff_eq.mpr c30
    have c30b1 : (t305 != t307) = false := bne_eq_false_iff_eq.mpr c30
    clear c30
    by_cases c31 : (t311 != t314) = true
    · exact laws_FnHousesRun.j0_dead ((if_pos c31).symm.trans H) hr_
    rw [if_neg c31] at H
    have c31b0 : (t311 != t314) = false := by simpa using c31
    (try (have c31b1 : decide (t311 = t314) = true := by simpa using c31))
    (try (have c31b2 : (t311 == t314) = true := by simpa using c31))
    clear c31
    by_cases c32 : t309 = t312
    rotate_left
    · exact laws_FnHousesRun.j0_dead ((if_neg c32).symm.trans H) hr_
    rw [if_pos c32] at H
    have c32b0 : (t309 == t312) = true := beq_iff_eq.mpr c32
    have c32b1 : (t309 != t312) = false := bne_eq_false_iff_eq.mpr c32
    clear c32
    as_aux_lemma =>
    by_cases c33 : t310 = t313
    rotate_left
    · exact laws_FnHousesRun.j0_dead ((if_neg c33).symm.trans H) hr_
    rw [if_pos c33] at H
    have c33b0 : (t310 == t313) = true := beq_iff_eq.mpr c33
    have c33b1 : (t310 != t313) = false := bne_eq_false_iff_eq.mpr c33
    clear c33
    by_cases c34 : (t316 != t322) = true
    · exact laws_FnHousesRun.j0_dead ((if_pos c34).symm.trans H) hr_
    rw [if_neg c34] at H
    have c34b0 : (t316 != t322) = false := by simpa using c34
    (try (have c34b1 : decide (t316 = t322) = true := by simpa using c34))
    (try (have c34b2 : (t316 == t322) = true := by simpa using c34))
    clear c34
    replace H := Option.bind_eq_some_iff.mp H
    obtain ⟨t332, A350, H⟩ := H
    have A35 := Aside0.mk A350
    clear A350
    by_cases c36 : t332 = true
    · subst c36
      rw [if_pos rfl] at H
      by_cases c37 : (t325 != t328) = true
      · exact laws_FnHousesRun.j0_dead ((if_pos c37).symm.trans H) hr_
      rw [if_neg c37] at H
      have c37b0 : (t325 != t328) = false := by simpa using c37
      (try (have c37b1 : decide (t325 = t328) = true := by simpa using c37))
      (try (have c37b2 : (t325 == t328) = true := by simpa using c37))
      clear c37
      by_cases c38 : t323 = t326
      rotate_left
      · exact laws_FnHousesRun.j0_dead ((if_neg c38).symm.trans H) hr_
      rw [if_pos c38] at H
      have c38b0 : (t323 == t326) = true := beq_iff_eq.mpr c38
      have c38b1 : (t323 != t326) = false := bne_eq_false_iff_eq.mpr c38
      clear c38
      by_cases c39 : t324 = t327
      rotate_left
      · exact laws_FnHousesRun.j0_dead ((if_neg c39).symm.trans H) hr_
      rw [if_pos c39] at H
      have c39b0 : (t324 == t327) = true := beq_iff_eq.mpr c39
      have c39b1 : (t324 != t327) = false := bne_eq_false_iff_eq.mpr c39
      clear c39
      by_cases c40 : (t306 != t298) = true
      · exact laws_FnHousesRun.j0_dead ((if_pos c40).symm.trans H) hr_
      rw [if_neg c40] at H
      have c40b0 : (t306 != t298) = false := by simpa using c40
      (try (have c40b1 : decide (t306 = t298) = true := by simpa using c40))
      (try (have c40b2 : (t306 == t298) = true := by simpa using c40))
      clear c40
      as_aux_lemma =>
      by_cases c41 : (t316 != t298) = true
      · exact laws_FnHousesRun.j0_dead ((if_pos c41).symm.trans H) hr_
      rw [if_neg c41] at H
      have c41b0 : (t316 != t298) = false := by simpa using c41
      (try (have c41b1 : decide (t316 = t298) = true := by simpa using c41))
      (try (have c41b2 : (t316 == t298) = true := by simpa using c41))
      clear c41
      by_cases c42 : (t325 != t298) = true
      · exact laws_FnHousesRun.j0_dead ((if_pos c42).symm.trans H) hr_
      rw [if_neg c42] at H
      have c42b0 : (t325 != t298) = false := by simpa using c42
      (try (have c42b1 : decide (t325 = t298) = true := by simpa using c42))
      (try (have c42b2 : (t325 == t298) = true := by simpa using c42))
      clear c42
      by_cases c43 : t298 = true
      · subst c43
        rw [if_pos rfl] at H
        as_aux_lemma =>
         have H' := Aside0.mk H
         clear H
         obtain ⟨Ao44, co44, eo44⟩ := Kd.N_slice HO300.out
         subst eo44
         obtain ⟨Ao45, co45, eo45⟩ := Kd.N_slice HO303.out
         subst eo45
         go_wp2_with (first | (go_at_call 18; (with_reducible refine (laws_iRows.calls k _ _ t297 _ _ t301 true _ ?side1 ?side2 ?side3 ?side4 A27.out).mono ?_); (case side1 => repeat (first | exact (Kd.N_reads' HO300.out).2.2 | (with_reducible refine Kd.C_alloc ?_ _) | (with_reducible refine Kd.C_drewN ?_ _) | (with_reducible refine Kd.C_drew ?_))); (case side2 => exact (Kd.N_reads' HO300.out).2.1); (case side3 => repeat (first | exact (Kd.N_reads' HO303.out).2.2 | (with_reducible refine Kd.C_alloc ?_ _) | (with_reducible refine Kd.C_drewN ?_ _) | (with_reducible refine Kd.C_drew ?_))); (case side4 => exact (Kd.N_reads' HO303.out).2.1); rintro e w' ⟨rfl, ⟨nd, rfl⟩⟩; (try first | exact ⟨rfl, _, World.drewN_drewN _ _ _⟩ | exact ⟨rfl, _, Eq.trans (World.drewN_drewN _ _ _) (congrArg (World.drewN _) (Nat.add_assoc _ _ _))⟩); obtain ⟨Ao46, co46, eo46⟩ := Kd.N_slice HO318.out; subst eo46; obtain ⟨Ao47, co47, eo47⟩ := Kd.N_slice HO321.out; subst eo47) | (go_at_call 18; (with_reducible refine (laws_iRows.calls k _ _ t315 _ _ t319 true _ ?side1 ?side2 ?side3 ?side4 A35.out).mono ?_); (case side1 => repeat (first | exact (Kd.N_reads' HO318.out).2.2 | (with_reducible refine Kd.C_alloc ?_ _) | (with_reducible refine Kd.C_drewN ?_ _) | (with_reducible refine Kd.C_drew ?_))); (case side2 => exact (Kd.N_reads' HO318.out).2.1); (case side3 => repeat (first | exact (Kd.N_reads' HO321.out).2.2 | (with_reducible refine Kd.C_alloc ?_ _) | (with_reducible refine Kd.C_drewN ?_ _) | (with_reducible refine Kd.C_drew ?_))); (case side4 => exact (Kd.N_reads' HO321.out).2.1); rintro e w' ⟨rfl, ⟨nd, rfl⟩⟩; (try first | exact ⟨rfl, _, World.drewN_drewN _ _ _⟩ | exact ⟨rfl, _, Eq.trans (World.drewN_drewN _ _ _) (congrArg (World.drewN _) (Nat.add_assoc _ _ _))⟩)))
         repeat (go_quiet (fail); try go_wp2_with (first | (go_at_call 18; (with_reducible refine (laws_iRows.calls k _ _ t297 _ _ t301 true _ ?side1 ?side2 ?side3 ?side4 A27.out).mono ?_); (case side1 => repeat (first | exact (Kd.N_reads' HO300.out).2.2 | (with_reducible refine Kd.C_alloc ?_ _) | (with_reducible refine Kd.C_drewN ?_ _) | (with_reducible refine Kd.C_drew ?_))); (case side2 => exact (Kd.N_reads' HO300.out).2.1); (case side3 => repeat (first | exact (Kd.N_reads' HO303.out).2.2 | (with_reducible refine Kd.C_alloc ?_ _) | (with_reducible refine Kd.C_drewN ?_ _) | (with_reducible refine Kd.C_drew ?_))); (case side4 => exact (Kd.N_reads' HO303.out).2.1); rintro e w' ⟨rfl, ⟨nd, rfl⟩⟩; (try first | exact ⟨rfl, _, World.drewN_drewN _ _ _⟩ | exact ⟨rfl, _, Eq.trans (World.drewN_drewN _ _ _) (congrArg (World.drewN _) (Nat.add_assoc _ _ _))⟩); obtain ⟨Ao46, co46, eo46⟩ := Kd.N_slice HO318.out; subst eo46; obtain ⟨Ao47, co47, eo47⟩ := Kd.N_slice HO321.out; subst eo47) | (go_at_call 18; (with_reducible refine (laws_iRows.calls k _ _ t315 _ _ t319 true _ ?side1 ?side2 ?side3 ?side4 A35.out).mono ?_); (case side1 => repeat (first | exact (Kd.N_reads' HO318.out).2.2 | (with_reducible refine Kd.C_alloc ?_ _) | (with_reducible refine Kd.C_drewN ?_ _) | (with_reducible refine Kd.C_drew ?_))); (case side2 => exact (Kd.N_reads' HO318.out).2.1); (case side3 => repeat (first | exact (Kd.N_reads' HO321.out).2.2 | (with_reducible refine Kd.C_alloc ?_ _) | (with_reducible refine Kd.C_drewN ?_ _) | (with_reducible refine Kd.C_drew ?_))); (case side4 => exact (Kd.N_reads' HO321.out).2.1); rintro e w' ⟨rfl, ⟨nd, rfl⟩⟩; (try first | exact ⟨rfl, _, World.drewN_drewN _ _ _⟩ | exact ⟨rfl, _, Eq.trans (World.drewN_drewN _ _ _) (congrArg (World.drewN _) (Nat.add_assoc _ _ _))⟩))))
         go_meet
         case rel => exact ⟨_, ((t311 != (decide (t305 > 0)))), z6_6_, H', ⟨by first | omega | exact Nat.le_refl _⟩, ⟨by (with_reducible repeat (first | apply Kd.N_alloc | apply Kd.N_drewN | apply Kd.N_drew)); exact Kd.N_mono HO300.out (fun _ hk => hk.1.2)⟩, ⟨by (with_reducible repeat (first | apply Kd.N_alloc | apply Kd.N_drewN | apply Kd.N_drew)); exact Kd.N_mono HO318.out (fun _ hk => hk.1.1)⟩, ⟨by repeat (first | (with_reducible first | exact HB.out | apply below_alloc | apply pw_below_drewN | apply below_drew1) | exact HB.out)⟩⟩
      replace c43 := Bool.eq_false_iff.mpr c43
      subst c43
      rw [if_neg (show ¬ (false = true) by decide)] at H
      as_aux_lemma =>
       have H' := Aside0.mk H
       clear H
       obtain ⟨Ao48, co48, eo48⟩ := Kd.N_slice HO300.out
       subst eo48
       obtain ⟨Ao49, co49, eo49⟩ := Kd.N_slice HO303.out
       subst eo49
       go_wp2_with (first | (go_at_call 18; (with_reducible refine (laws_iRows.calls k _ _ t297 _ _ t301 true _ ?side1 ?side2 ?side3 ?side4 A27.out).mono ?_); (case side1 => repeat (first | exact (Kd.N_reads' HO300.out).2.2 | (with_reducible refine Kd.C_alloc ?_ _) | (with_reducible refine Kd.C_drewN ?_ _) | (with_reducible refine Kd.C_drew ?_))); (case side2 => exact (Kd.N_reads' HO300.out).2.1); (case side3 => repeat (first | exact (Kd.N_reads' HO303.out).2.2 | (with_reducible refine Kd.C_alloc ?_ _) | (with_reducible refine Kd.C_drewN ?_ _) | (with_reducible refine Kd.C_drew ?_))); (case side4 => exact (Kd.N_reads' HO303.out).2.1); rintro e w' ⟨rfl, ⟨nd, rfl⟩⟩; (try first | exact ⟨rfl, _, World.drewN_drewN _ _ _⟩ | exact ⟨rfl, _, Eq.trans (World.drewN_drewN _ _ _) (congrArg (World.drewN _) (Nat.add_assoc _ _ _))⟩); obtain ⟨Ao50, co50, eo50⟩ := Kd.N_slice HO318.out; subst eo50; obtain ⟨Ao51, co51, eo51⟩ := Kd.N_slice HO321.out; subst eo51) | (go_at_call 18; (with_reducible refine (laws_iRows.calls k _ _ t315 _ _ t319 true _ ?side1 ?side2 ?side3 ?side4 A35.out).mono ?_); (case side1 => repeat (first | exact (Kd.N_reads' HO318.out).2.2 | (with_reducible refine Kd.C_alloc ?_ _) | (with_reducible refine Kd.C_drewN ?_ _) | (with_reducible refine Kd.C_drew ?_))); (case side2 => exact (Kd.N_reads' HO318.out).2.1); (case side3 => repeat (first | exact (Kd.N_reads' HO321.out).2.2 | (with_reducible refine Kd.C_alloc ?_ _) | (with_reducible refine Kd.C_drewN ?_ _) | (with_reducible refine Kd.C_drew ?_))); (case side4 => exact (Kd.N_reads' HO321.out).2.1); rintro e w' ⟨rfl, ⟨nd, rfl⟩⟩; (try first | exact ⟨rfl, _, World.drewN_drewN _ _ _⟩ | exact ⟨rfl, _, Eq.trans (World.drewN_drewN _ _ _) (congrArg (World.drewN _) (Nat.add_assoc _ _ _))⟩)))
       repeat (go_quiet (fail); try go_wp2_with (first | (go_at_call 18; (with_reducible refine (laws_iRows.calls k _ _ t297 _ _ t301 true _ ?side1 ?side2 ?side3 ?side4 A27.out).mono ?_); (case side1 => repeat (first | exact (Kd.N_reads' HO300.out).2.2 | (with_reducible refine Kd.C_alloc ?_ _) | (with_reducible refine Kd.C_drewN ?_ _) | (with_reducible refine Kd.C_drew ?_))); (case side2 => exact (Kd.N_reads' HO300.out).2.1); (case side3 => repeat (first | exact (Kd.N_reads' HO303.out).2.2 | (with_reducible refine Kd.C_alloc ?_ _) | (with_reducible refine Kd.C_drewN ?_ _) | (with_reducible refine Kd.C_drew ?_))); (case side4 => exact (Kd.N_reads' HO303.out).2.1); rintro e w' ⟨rfl, ⟨nd, rfl⟩⟩; (try first | exact ⟨rfl, _, World.drewN_drewN _ _ _⟩ | exact ⟨rfl, _, Eq.trans (World.drewN_drewN _ _ _) (congrArg (World.drewN _) (Nat.add_assoc _ _ _))⟩); obtain ⟨Ao50, co50, eo50⟩ := Kd.N_slice HO318.out; subst eo50; obtain ⟨Ao51, co51, eo51⟩ := Kd.N_slice HO321.out; subst eo51) | (go_at_call 18; (with_reducible refine (laws_iRows.calls k _ _ t315 _ _ t319 true _ ?side1 ?side2 ?side3 ?side4 A35.out).mono ?_); (case side1 => repeat (first | exact (Kd.N_reads' HO318.out).2.2 | (with_reducible refine Kd.C_alloc ?_ _) | (with_reducible refine Kd.C_drewN ?_ _) | (with_reducible refine Kd.C_drew ?_))); (case side2 => exact (Kd.N_reads' HO318.out).2.1); (case side3 => repeat (first | exact (Kd.N_reads' HO321.out).2.2 | (with_reducible refine Kd.C_alloc ?_ _) | (with_reducible refine Kd.C_drewN ?_ _) | (with_reducible refine Kd.C_drew ?_))); (case side4 => exact (Kd.N_reads' HO321.out).2.1); rintro e w' ⟨rfl, ⟨nd, rfl⟩⟩; (try first | exact ⟨rfl, _, World.drewN_drewN _ _ _⟩ | exact ⟨rfl, _, Eq.trans (World.drewN_drewN _ _ _) (congrArg (World.drewN _) (Nat.add_assoc _ _ _))⟩))))
       go_meet
       case rel => exact ⟨_, ((t311 != false)), z6_6_, H', ⟨by first | omega | exact Nat.le_refl _⟩, ⟨by (with_reducible repeat (first | apply Kd.N_alloc | apply Kd.N_drewN | apply Kd.N_drew)); exact Kd.N_mono HO300.out (fun _ hk => hk.1.2)⟩, ⟨by (with_reducible repeat (first | apply Kd.N_alloc | apply Kd.N_drewN | apply Kd.N_drew)); exact Kd.N_mono HO318.out (fun _ hk => hk.1.1)⟩, ⟨by repeat (first | (with_reducible first | exact HB.out | apply below_alloc | apply pw_below_drewN | apply below_drew1) | exact HB.out)⟩⟩
    replace c36 := Bool.eq_false_iff.mpr c36
    subst c36
    rw [if_neg (show ¬ (false = true) by decide)] at H
    as_aux_lemma =>
     exact laws_FnHousesRun.j0_dead H hr_
  replace c28 := Bool.eq_false_iff.mpr c28
  subst c28
  rw [if_neg (show ¬ (false = true) by decide)] at H
  as_aux_lemma =>
   exact laws_FnHousesRun.j0_dead H hr_
 case rest =>
  as_aux_lemma =>
  clear HC16
  (try clear c1);(try clear c2);(try clear p2);(try clear c3);(try clear c4);(try clear c26);(try clear c26b0);(try clear c26b1);(try clear c26b2);(try clear c28);(try clear c29);(try clear c29b0);(try clear c29b1);(try clear c29b2);(try clear c30);(try clear c30b0);(try clear c30b1);(try clear c31);(try clear c31b0);(try clear c31b1);(try clear c31b2);(try clear c32);(try clear c32b0);(try clear c32b1);(try clear c33);(try clear c33b0);(try clear c33b1);(try clear c34);(try clear c34b0);(try clear c34b1);(try clear c34b2);(try clear c36);(try clear c37);(try clear c37b0);(try clear c37b1);(try clear c37b2);(try clear c38);(try clear c38b0);(try clear c38b1);(try clear c39);(try clear c39b0);(try clear c39b1);(try clear c40);(try clear c40b0);(try clear c40b1);(try clear c40b2);(try clear c41);(try clear c41b0);(try clear c41b1);(try clear c41b2);(try clear c42);(try clear c42b0);(try clear c42b1);(try clear c42b2);(try clear c43)
  obtain ⟨kq, x219_15, rfl, HA, HJ15, HO_6, HO_20, HB⟩ := hcut
  cases kq with
  | zero => exact absurd HA.out (by simp [laws_FnHousesRun.j0])
  | succ kj15 =>
   have H := HA.out
   clear HA
   simp only [laws_FnHousesRun.j0] at H
   by_cases c58 : x219_15 = true
   · subst c58
     rw [if_pos rfl] at H
     as_aux_lemma =>
      exact Bool.noConfusion ((Option.some.inj H).trans hr_.out)
   replace c58 := Bool.eq_false_iff.mpr c58
   subst c58
   rw [if_neg (show ¬ (false = true) by decide)] at H
   have HC59 := Aside0.mk H
   clear H
   go_upto_if 220 with (fail)
   repeat (go_quiet (fail); go_upto_if 220 with (fail))
   go_cut [] from 220 to 396 (fun wc => ∃ (kq : Nat), Aside0 (laws_FnHousesRun.j4 kq l1 = some r) ∧ Aside0 (kq ≤ kj15) ∧ Aside0 (Below w.heap.size w wc))
   case first =>
    as_aux_lemma =>
    have H := HC59.out
    clear HC59
    by_cases c60 : t298 = true
    · subst c60
      rw [if_pos rfl] at H
      by_cases c61 : (t297.length : Int) = t305
      rotate_left
      · exact dead_ (if_neg c61) H hr_
      rw [if_pos c61] at H
      have c61b0 : ((t297.length : Int) == t305) = true := beq_iff_eq.mpr c61
      have c61b1 : ((t297.length : Int) != t305) = false := bne_eq_false_iff_eq.mpr c61
      clear c61
      (first | rw [c61b0] | (simp only [i64_w, i32_w]; rw [c61b0]) | skip)
      by_cases c62 : t323 < 2
      · exact dead_ (if_pos c62) H hr_
      rw [if_neg c62] at H
      have c62b0 : decide (t323 < 2) = false := decide_eq_false c62
      clear c62
      by_cases c63 : t324 < 1
      · exact dead_ (if_pos c63) H hr_
      rw [if_neg c63] at H
      have c63b0 : decide (t324 < 1) = false := decide_eq_false c63
      clear c63
      by_cases c64 : t324 > t323
      · exact dead_ (if_pos c64) H hr_
      rw [if_neg c64] at H
      have c64b0 : decide (t323 < t324) = false := decide_eq_false c64
      clear c64
      have H' := Aside0.mk H
      clear H
      obtain ⟨Ao65, co65, eo65⟩ := Kd.N_slice HO_6.out
      subst eo65
      go_wp2
      repeat (go_quiet (fail); try go_wp2)
      go_loopg [240] kj15 (fun kq v240 w' => ∃ (x240_2 : Int), v240 = .int .i64 x240_2 ∧ Aside0 (laws_FnHousesRun.l0 kq l1 t296 t297 t305 t309 t310 t315 t323 t324 t297 (t297.length : Int) x240_2 = some r) ∧ Aside0 (kq ≤ kj15) ∧ Aside0 (Kd.N (Kd.slice 3 (Kd.int .i64)) 33 w' w.heap.size (fun k_ => some k_ ≠ (v317 : Value).ownBlock) (.slice Ao65 t297.length co65) t297) ∧ Aside0 (Kd.N (Kd.slice 3 (Kd.int .i64)) 33 w' w.heap.size (fun k_ => some k_ ≠ ((.slice Ao65 t297.length co65) : Value).ownBlock ∧ some k_ ≠ ((.slice Ao65 t297.length co65) : Value).ownBlock) v317 t315) ∧ Aside0 (Kd.N (Kd.slice 3 (Kd.int .i64)) 33 w' w.heap.size (fun k_ => some k_ ≠ (v317 : Value).ownBlock) (.slice Ao65 t297.length co65) t297) ∧ Aside0 (Below w.heap.size w w'))
      case atStart => exact ⟨(0), z6_6_, H', ⟨Nat.le_refl _⟩, ⟨by (with_reducible repeat (first | apply Kd.N_alloc | apply Kd.N_drewN | apply Kd.N_drew)); exact HO_6.out⟩, ⟨by (with_reducible repeat (first | apply Kd.N_alloc | apply Kd.N_drewN | apply Kd.N_drew)); exact Kd.N_mono HO_20.out (fun _ hk => ⟨hk, hk⟩)⟩, ⟨by (with_reducible repeat (first | apply Kd.N_alloc | apply Kd.N_drewN | apply Kd.N_drew)); exact HO_6.out⟩, ⟨by repeat (first | (with_reducible first | exact HB.out | apply below_alloc | apply pw_below_drewN | apply below_drew1) | exact HB.out)⟩⟩
      case round =>
       clear H'
       (try clear c1);(try clear c2);(try clear p2);(try clear c3);(try clear c4);(try clear c5);(try clear c6);(try clear c26);(try clear c26b0);(try clear c26b1);(try clear c26b2);(try clear c28);(try clear c29);(try clear c29b0);(try clear c29b1);(try clear c29b2);(try clear c30);(try clear c30b0);(try clear c30b1);(try clear c31);(try clear c31b0);(try clear c31b1);(try clear c31b2);(try clear c32);(try clear c32b0);(try clear c32b1);(try clear c33);(try clear c33b0);(try clear c33b1);(try clear c34);(try clear c34b0);(try clear c34b1);(try clear c34b2);(try clear c36);(try clear c37);(try clear c37b0);(try clear c37b1);(try clear c37b2);(try clear c38);(try clear c38b0);(try clear c38b1);(try clear c39);(try clear c39b0);(try clear c39b1);(try clear c40);(try clear c40b0);(try clear c40b1);(try clear c40b2);(try clear c41);(try clear c41b0);(try clear c41b1);(try clear c41b2);(try clear c42);(try clear c42b0);(try clear c42b1);(try clear c42b2);(try clear c43);(try clear c58);(try clear c60);(try clear c61);(try clear c61b0);(try clear c61b1);(try clear c62);(try clear c62b0);(try clear c63);(try clear c63b0);(try clear c64);(try clear c64b0);(try clear p2)
       obtain ⟨x240_2, rfl, HA, HK2, HO_6, HO_20, HO_238, HB⟩ := hrel
       cases gk with
       | zero => exact absurd HA.out (by simp [laws_FnHousesRun.l0])
       | succ k2 =>
        have H := HA.out
        clear HA
        simp only [laws_FnHousesRun.l0] at H
        by_cases c66 : x240_2 < (t297.length : Int)
        · rw [if_pos c66] at H
          have c66b0 : decide (x240_2 < (t297.length : Int)) = true := decide_eq_true c66
          clear c66
          by_cases c67 : 0 ≤ x240_2
          rotate_left
          · exact none_ (if_neg c67) H
          rw [if_pos c67] at H
          have c67b0 : decide (0 ≤ x240_2) = true := decide_eq_true c67
          clear c67
          by_cases c68 : x240_2 < (t297.length : Int)
          rotate_left
          · exact none_ (if_neg c68) H
          rw [if_pos c68] at H
          have c68b0 : decide (x240_2 < (t297.length : Int)) = true := decide_eq_true c68
          clear c68
          by_cases c69 : ((rd_L2 t297 x240_2).length : Int) = 2
          rotate_left
          · exact dead_ (if_neg c69) H hr_
          rw [if_pos c69] at H
          have c69b0 : (((rd_L2 t297 x240_2).length : Int) == 2) = true := beq_iff_eq.mpr c69
          have c69b1 : (((rd_L2 t297 x240_2).length : Int) != 2) = false := bne_eq_false_iff_eq.mpr c69
          clear c69
          by_cases c70 : 0 < ((rd_L2 t297 x240_2).length : Int)
          rotate_left
          · exact none_ (if_neg c70) H
          rw [if_pos c70] at H
          have c70b0 : decide (0 < ((rd_L2 t297 x240_2).length : Int)) = true := decide_eq_true c70
          have c70b1 : decide (0 < (rd_L2 t297 x240_2).length) = true := decide_eq_true (by omega)
          clear c70
          as_aux_lemma =>
          by_cases c71 : 1 < ((rd_L2 t297 x240_2).length : Int)
          rotate_left
          · exact none_ (if_neg c71) H
          rw [if_pos c71] at H
          have c71b0 : decide (1 < ((rd_L2 t297 x240_2).length : Int)) = true := decide_eq_true c71
          have c71b1 : decide (1 < (rd_L2 t297 x240_2).length) = true := decide_eq_true (by omega)
          clear c71
          by_cases c72 : (rd (rd_L2 t297 x240_2) 0) ≥ (rd (rd_L2 t297 x240_2) 1)
          · exact dead_ (if_pos c72) H hr_
          rw [if_neg c72] at H
          have c72b0 : decide ((rd (rd_L2 t297 x240_2) 1) ≤ (rd (rd_L2 t297 x240_2) 0)) = false := decide_eq_false c72
          clear c72
          by_cases c73 : x240_2 > 0
          · rw [if_pos c73] at H
            have c73b0 : decide (0 < x240_2) = true := decide_eq_true c73
            clear c73
            obtain ⟨ji74, hji74⟩ : ∃ j_ : Int, (wrap64 (x240_2 - 1)) = j_ := ⟨_, rfl⟩
            replace H : (if 0 ≤ (ji74) then (if (ji74) < (t297.length : Int) then (if 0 < ((rd_L2 t297 (ji74)).length : Int) then (if (rd (rd_L2 t297 (ji74)) 0) ≥ (rd (rd_L2 t297 x240_2) 0) then (some false) else (if (wrap64 ((rd (rd_L2 t297 x240_2) 1) - (rd (rd_L2 t297 x240_2) 0))) > (wrap64 (t310 - t309)) then (some false) else ((impl_SumOfHouses.f (rd (rd_L2 t297 x240_2) 0) (rd (rd_L2 t297 x240_2) 1) 1).bind fun bt352 => (if bt352.2 = true then (if bt352.1 = t296 then (laws_FnHousesRun.l0 k2 l1 t296 t297 t305 t309 t310 t315 t323 t324 t297 (t297.length : Int) (wrap64 (x240_2 + 1))) else (some false)) else (some false))))) else (none)) else (none)) else (none)) = some r := by first | (rw [hji74] at H; exact H) | (simp only [hji74] at H ⊢; exact H)
            have hji74w : (IntKind.i64.wrap (x240_2 - 1)) = ji74 := (i64_w _).trans hji74
            by_cases c75 : 0 ≤ (ji74)
            rotate_left
            · exact none_ (if_neg c75) H
            rw [if_pos c75] at H
            have c75b0 : decide (0 ≤ (ji74)) = true := decide_eq_true c75
            clear c75
            by_cases c76 : (ji74) < (t297.length : Int)
            rotate_left
            · exact none_ (if_neg c76) H
            rw [if_pos c76] at H
            have c76b0 : decide ((ji74) < (t297.length : Int)) = true := decide_eq_true c76
            clear c76
            by_cases c77 : 0 < ((rd_L2 t297 (ji74)).length : Int)
            rotate_left
            · exact none_ (if_neg c77) H
            rw [if_pos c77] at H
            have c77b0 : decide (0 < ((rd_L2 t297 (ji74)).length : Int)) = true := decide_eq_true c77
            have c77b1 : decide (0 < (rd_L2 t297 (ji74)).length) = true := decide_eq_true (by omega)
            clear c77
            by_cases c78 : (rd (rd_L2 t297 (ji74)) 0) ≥ (rd (rd_L2 t297 x240_2) 0)
            · exact dead_ (if_pos c78) H hr_
            rw [if_neg c78] at H
            have c78b0 : decide ((rd (rd_L2 t297 x240_2) 0) ≤ (rd (rd_L2 t297 (ji74)) 0)) = false := decide_eq_false c78
            clear c78
            as_aux_lemma =>
            by_cases c79 : (wrap64 ((rd (rd_L2 t297 x240_2) 1) - (rd (rd_L2 t297 x240_2) 0))) > (wrap64 (t310 - t309))
            · exact dead_ (if_pos c79) H hr_
            rw [if_neg c79] at H
            have c79b0 : decide ((wrap64 (t310 - t309)) < (wrap64 ((rd (rd_L2 t297 x240_2) 1) - (rd (rd_L2 t297 x240_2) 0)))) = false := decide_eq_false c79
            clear c79
            replace H := Option.bind_eq_some_iff.mp H
            obtain ⟨⟨t352, t353⟩, A800, H⟩ := H
            dsimp only at H
            have A80 := Aside0.mk A800
            clear A800
            by_cases c81 : t353 = true
            · subst c81
              rw [if_pos rfl] at H
              by_cases c82 : t352 = t296
              rotate_left
              · exact dead_ (if_neg c82) H hr_
              rw [if_pos c82] at H
              have c82b0 : (t352 == t296) = true := beq_iff_eq.mpr c82
              have c82b1 : (t352 != t296) = false := bne_eq_false_iff_eq.mpr c82
              clear c82
              as_aux_lemma =>
               have H' := Aside0.mk H
               clear H
               have p333 : 0 ≤ (x240_2 : Int) := of_decide_eq_true z6_3_
               have q333 : x240_2 < (t297.length : Int) := of_decide_eq_true z6_3_
               obtain ⟨ad333, A333_0, c333_0, e333, hx333_0, hl333_0, hi333_0⟩ := at_L2 (Kd.N_reads' HO_238.out).2.2 x240_2 p333 q333
               cases e333
               obtain ⟨ce333, hce333, hMe333, hcc333⟩ := Kd.N_get HO_238.out [] x240_2 p333 (by first | exact q333 | exact of_decide_eq_true z6_3_ | (have e_ := (Kd.N_reads' HO_238.out).1; omega))
               obtain ⟨ua333_0, uc333_0, rfl, ul333_0, ge333_0⟩ := Kd.FK_slice_open hMe333
               have hv333_0 := hcc333 0 _ rfl
               rw [Nat.add_zero, show ((Kd.slice 3 (Kd.int .i64))).sz = 1 from rfl, Nat.mul_one] at hv333_0
               replace hv333_0 := Option.some.inj (hv333_0.symm.trans hx333_0)
               injection hv333_0 with hva_ hvn_ hvc_
               rw [hva_] at ge333_0
               rw [hvc_] at ul333_0
               have HL333_0 := Aside0.mk (show Kd.V (Kd.int .i64) 3 _ w.heap.size _ _ (rd_L2 t297 x240_2) from Kd.V_mk ul333_0 ge333_0)
               clear hva_ hvn_ hvc_ ge333_0 ul333_0
               clear hcc333 hce333
               have HR333_0 := Aside0.mk hi333_0
               have HC333_0 := Aside0.mk hl333_0
               clear hi333_0 hl333_0
               replace p333 := eq_true p333
               replace q333 := eq_true q333
               have p343 : 0 ≤ (0 : Int) := (by omega)
               have q343 : 0 < ((rd_L2 t297 x240_2).length : Int) := of_decide_eq_true z6_3_
               obtain ⟨ad343, e343, hx343_0⟩ := Kd.at_int z6_1_ 0 p343 q343
               cases e343
               have qi343 : (0 < (rd_L2 t297 x240_2).length) = True := eq_true (by omega)
               (try rw [show ((0 : Int)).toNat = 0 from rfl] at hx343_0)
               (try rw [Addr.add_zero'] at hx343_0)
               replace p343 := eq_true p343
               replace q343 := eq_true q343
               have p344 : 0 ≤ (1 : Int) := (by omega)
               have q344 : 1 < ((rd_L2 t297 x240_2).length : Int) := of_decide_eq_true z6_3_
               obtain ⟨ad344, e344, hx344_0⟩ := Kd.at_int z6_1_ 1 p344 q344
               obtain rfl : ad343 = ad344 := (by injection e344)
               (try simp only [show (1 : Int).toNat = 1 from rfl, Nat.reduceMul, Nat.reduceEqDiff, Go.Addr.add, ↓reduceIte] at hx344_0)
               have qi344 : (1 < (rd_L2 t297 x240_2).length) = True := eq_true (by omega)
               (try rw [show ((1 : Int)).toNat = 1 from rfl] at hx344_0)
               replace p344 := eq_true p344
               replace q344 := eq_true q344
               have p345 : 0 ≤ ((ji74) : Int) := of_decide_eq_true z6_3_
               have q345 : (ji74) < (t297.length : Int) := of_decide_eq_true z6_3_
               obtain ⟨ad345, A345_0, c345_0, e345, hx345_0, hl345_0, hi345_0⟩ := at_L2 (Kd.N_reads' HO_6.out).2.2 (ji74) p345 q345
               obtain rfl : ad333 = ad345 := (by injection e345)
               obtain ⟨ce345, hce345, hMe345, hcc345⟩ := Kd.N_get HO_6.out [] (ji74) p345 (by first | exact q345 | exact of_decide_eq_true z6_3_ | (have e_ := (Kd.N_reads' HO_6.out).1; omega))
               obtain ⟨ua345_0, uc345_0, rfl, ul345_0, ge345_0⟩ := Kd.FK_slice_open hMe345
               have hv345_0 := hcc345 0 _ rfl
               rw [Nat.add_zero, show ((Kd.slice 3 (Kd.int .i64))).sz = 1 from rfl, Nat.mul_one] at hv345_0
               replace hv345_0 := Option.some.inj (hv345_0.symm.trans hx345_0)
               injection hv345_0 with hva_ hvn_ hvc_
               rw [hva_] at ge345_0
               rw [hvc_] at ul345_0
               have HL345_0 := Aside0.mk (show Kd.V (Kd.int .i64) 3 _ w.heap.size _ _ (rd_L2 t297 (ji74)) from Kd.V_mk ul345_0 ge345_0)
               clear hva_ hvn_ hvc_ ge345_0 ul345_0
               clear hcc345 hce345
               have HR345_0 := Aside0.mk hi345_0
               have HC345_0 := Aside0.mk hl345_0
               clear hi345_0 hl345_0
               replace p345 := eq_true p345
               replace q345 := eq_true q345
               have p346 : 0 ≤ (0 : Int) := (by omega)
               have q346 : 0 < ((rd_L2 t297 (ji74)).length : Int) := of_decide_eq_true z6_3_
               obtain ⟨ad346, e346, hx346_0⟩ := Kd.at_int (by repeat (first | (with_reducible exact HR345_0.out) | (with_reducible refine Kd.C_alloc ?_ _) | (with_reducible refine Kd.C_drewN ?_ _) | (with_reducible refine Kd.C_drew ?_) | exact HR345_0.out)) 0 p346 q346
               cases e346
               have qi346 : (0 < (rd_L2 t297 (ji74)).length) = True := eq_true (by omega)
               (try rw [show ((0 : Int)).toNat = 0 from rfl] at hx346_0)
               (try rw [Addr.add_zero'] at hx346_0)
               replace p346 := eq_true p346
               replace q346 := eq_true q346
               have p347 : 0 ≤ (0 : Int) := (by omega)
               have q347 : 0 < ((rd_L2 t297 x240_2).length : Int) := of_decide_eq_true z6_3_
               obtain ⟨ad347, e347, hx347_0⟩ := Kd.at_int z6_1_ 0 p347 q347
               obtain rfl : ad343 = ad347 := (by injection e347)
               have qi347 : (0 < (rd_L2 t297 x240_2).length) = True := eq_true (by omega)
               (try rw [show ((0 : Int)).toNat = 0 from rfl] at hx347_0)
               (try rw [Addr.add_zero'] at hx347_0)
               replace p347 := eq_true p347
               replace q347 := eq_true q347
               have p348 : 0 ≤ (1 : Int) := (by omega)
               have q348 : 1 < ((rd_L2 t297 x240_2).length : Int) := of_decide_eq_true z6_3_
               obtain ⟨ad348, e348, hx348_0⟩ := Kd.at_int z6_1_ 1 p348 q348
               obtain rfl : ad343 = ad348 := (by injection e348)
               (try simp only [show (1 : Int).toNat = 1 from rfl, Nat.reduceMul, Nat.reduceEqDiff, Go.Addr.add, ↓reduceIte] at hx348_0)
               have qi348 : (1 < (rd_L2 t297 x240_2).length) = True := eq_true (by omega)
               (try rw [show ((1 : Int)).toNat = 1 from rfl] at hx348_0)
               replace p348 := eq_true p348
               replace q348 := eq_true q348
               have p349 : 0 ≤ (0 : Int) := (by omega)
               have q349 : 0 < ((rd_L2 t297 x240_2).length : Int) := of_decide_eq_true z6_3_
               obtain ⟨ad349, e349, hx349_0⟩ := Kd.at_int z6_1_ 0 p349 q349
               obtain rfl : ad343 = ad349 := (by injection e349)
               have qi349 : (0 < (rd_L2 t297 x240_2).length) = True := eq_true (by omega)
               (try rw [show ((0 : Int)).toNat = 0 from rfl] at hx349_0)
               (try rw [Addr.add_zero'] at hx349_0)
               replace p349 := eq_true p349
               replace q349 := eq_true q349
               have p350 : 0 ≤ (0 : Int) := (by omega)
               have q350 : 0 < ((rd_L2 t297 x240_2).length : Int) := of_decide_eq_true z6_3_
               obtain ⟨ad350, e350, hx350_0⟩ := Kd.at_int z6_1_ 0 p350 q350
               obtain rfl : ad343 = ad350 := (by injection e350)
               have qi350 : (0 < (rd_L2 t297 x240_2).length) = True := eq_true (by omega)
               (try rw [show ((0 : Int)).toNat = 0 from rfl] at hx350_0)
               (try rw [Addr.add_zero'] at hx350_0)
               replace p350 := eq_true p350
               replace q350 := eq_true q350
               have p351 : 0 ≤ (1 : Int) := (by omega)
               have q351 : 1 < ((rd_L2 t297 x240_2).length : Int) := of_decide_eq_true z6_3_
               obtain ⟨ad351, e351, hx351_0⟩ := Kd.at_int z6_1_ 1 p351 q351
               obtain rfl : ad343 = ad351 := (by injection e351)
               (try simp only [show (1 : Int).toNat = 1 from rfl, Nat.reduceMul, Nat.reduceEqDiff, Go.Addr.add, ↓reduceIte] at hx351_0)
               have qi351 : (1 < (rd_L2 t297 x240_2).length) = True := eq_true (by omega)
               (try rw [show ((1 : Int)).toNat = 1 from rfl] at hx351_0)
               replace p351 := eq_true p351
               replace q351 := eq_true q351
               go_wp2_with (first | (go_at_call 19; (with_reducible refine (impl_SumOfHouses.calls (rd (rd_L2 t297 x240_2) 0) (rd (rd_L2 t297 x240_2) 1) 1 t352 true _ A80.out).mono ?_); rintro e w' ⟨rfl, ⟨nd, rfl⟩⟩; (try first | exact ⟨rfl, _, World.drewN_drewN _ _ _⟩ | exact ⟨rfl, _, Eq.trans (World.drewN_drewN _ _ _) (congrArg (World.drewN _) (Nat.add_assoc _ _ _))⟩)))
               repeat (go_quiet (first | (go_at_call 19; (with_reducible refine (impl_SumOfHouses.calls (rd (rd_L2 t297 x240_2) 0) (rd (rd_L2 t297 x240_2) 1) 1 t352 true _ A80.out).mono ?_); rintro e w' ⟨rfl, ⟨nd, rfl⟩⟩; (try first | exact ⟨rfl, _, World.drewN_drewN _ _ _⟩ | exact ⟨rfl, _, Eq.trans (World.drewN_drewN _ _ _) (congrArg (World.drewN _) (Nat.add_assoc _ _ _))⟩))); try go_wp2_with (first | (go_at_call 19; (with_reducible refine (impl_SumOfHouses.calls (rd (rd_L2 t297 x240_2) 0) (rd (rd_L2 t297 x240_2) 1) 1 t352 true _ A80.out).mono ?_); rintro e w' ⟨rfl, ⟨nd, rfl⟩⟩; (try first | exact ⟨rfl, _, World.drewN_drewN _ _ _⟩ | exact ⟨rfl, _, Eq.trans (World.drewN_drewN _ _ _) (congrArg (World.drewN _) (Nat.add_assoc _ _ _))⟩))))
               go_roundg k2
               case measure => have := HJ15.out; have := HK2.out; omega
               case rel => exact ⟨(wrap64 (x240_2 + 1)), z6_6_, H', ⟨by have := HJ15.out; have := HK2.out; omega⟩, ⟨by (with_reducible repeat (first | apply Kd.N_alloc | apply Kd.N_drewN | apply Kd.N_drew)); exact HO_6.out⟩, ⟨by (with_reducible repeat (first | apply Kd.N_alloc | apply Kd.N_drewN | apply Kd.N_drew)); exact HO_20.out⟩, ⟨by (with_reducible repeat (first | apply Kd.N_alloc | apply Kd.N_drewN | apply Kd.N_drew)); exact HO_238.out⟩, ⟨by repeat (first | (with_reducible first | exact HB.out | apply below_alloc | apply pw_below_drewN | apply below_drew1) | exact HB.out)⟩⟩
            replace c81 := Bool.eq_false_iff.mpr c81
            subst c81
            rw [if_neg (show ¬ (false = true) by decide)] at H
            as_aux_lemma =>
             exact Bool.noConfusion ((Option.some.inj H).trans hr_.out)
          rw [if_neg c73] at H
          have c73b0 : decide (0 < x240_2) = false := decide_eq_false c73
          clear c73
          as_aux_lemma =>
          by_cases c83 : (wrap64 ((rd (rd_L2 t297 x240_2) 1) - (rd (rd_L2 t297 x240_2) 0))) > (wrap64 (t310 - t309))
          · exact dead_ (if_pos c83) H hr_
          rw [if_neg c83] at H
          have c83b0 : decide ((wrap64 (t310 - t309)) < (wrap64 ((rd (rd_L2 t297 x240_2) 1) - (rd (rd_L2 t297 x240_2) 0)))) = false := decide_eq_false c83
          clear c83
          replace H := Option.bind_eq_some_iff.mp H
          obtain ⟨⟨t358, t359⟩, A840, H⟩ := H
          dsimp only at H
          have A84 := Aside0.mk A840
          clear A840
          by_cases c85 : t359 = true
          · subst c85
            rw [if_pos rfl] at H
            by_cases c86 : t358 = t296
            rotate_left
            · exact dead_ (if_neg c86) H hr_
            rw [if_pos c86] at H
            have c86b0 : (t358 == t296) = true := beq_iff_eq.mpr c86
            have c86b1 : (t358 != t296) = false := bne_eq_false_iff_eq.mpr c86
            clear c86
            as_aux_lemma =>
             have H' := Aside0.mk H
             clear H
             have p333 : 0 ≤ (x240_2 : Int) := of_decide_eq_true z6_3_
             have q333 : x240_2 < (t297.length : Int) := of_decide_eq_true z6_3_
             obtain ⟨ad333, A333_0, c333_0, e333, hx333_0, hl333_0, hi333_0⟩ := at_L2 (Kd.N_reads' HO_238.out).2.2 x240_2 p333 q333
             cases e333
             obtain ⟨ce333, hce333, hMe333, hcc333⟩ := Kd.N_get HO_238.out [] x240_2 p333 (by first | exact q333 | exact of_decide_eq_true z6_3_ | (have e_ := (Kd.N_reads' HO_238.out).1; omega))
             obtain ⟨ua333_0, uc333_0, rfl, ul333_0, ge333_0⟩ := Kd.FK_slice_open hMe333
             have hv333_0 := hcc333 0 _ rfl
             rw [Nat.add_zero, show ((Kd.slice 3 (Kd.int .i64))).sz = 1 from rfl, Nat.mul_one] at hv333_0
             replace hv333_0 := Option.some.inj (hv333_0.symm.trans hx333_0)
             injection hv333_0 with hva_ hvn_ hvc_
             rw [hva_] at ge333_0
             rw [hvc_] at ul333_0
             have HL333_0 := Aside0.mk (show Kd.V (Kd.int .i64) 3 _ w.heap.size _ _ (rd_L2 t297 x240_2) from Kd.V_mk ul333_0 ge333_0)
             clear hva_ hvn_ hvc_ ge333_0 ul333_0
             clear hcc333 hce333
             have HR333_0 := Aside0.mk hi333_0
             have HC333_0 := Aside0.mk hl333_0
             clear hi333_0 hl333_0
             replace p333 := eq_true p333
             replace q333 := eq_true q333
             have p343 : 0 ≤ (0 : Int) := (by omega)
             have q343 : 0 < ((rd_L2 t297 x240_2).length : Int) := of_decide_eq_true z6_3_
             obtain ⟨ad343, e343, hx343_0⟩ := Kd.at_int z6_1_ 0 p343 q343
             cases e343
             have qi343 : (0 < (rd_L2 t297 x240_2).length) = True := eq_true (by omega)
             (try rw [show ((0 : Int)).toNat = 0 from rfl] at hx343_0)
             (try rw [Addr.add_zero'] at hx343_0)
             replace p343 := eq_true p343
             replace q343 := eq_true q343
             have p344 : 0 ≤ (1 : Int) := (by omega)
             have q344 : 1 < ((rd_L2 t297 x240_2).length : Int) := of_decide_eq_true z6_3_
             obtain ⟨ad344, e344, hx344_0⟩ := Kd.at_int z6_1_ 1 p344 q344
             obtain rfl : ad343 = ad344 := (by injection e344)
             (try simp only [show (1 : Int).toNat = 1 from rfl, Nat.reduceMul, Nat.reduceEqDiff, Go.Addr.add, ↓reduceIte] at hx344_0)
             have qi344 : (1 < (rd_L2 t297 x240_2).length) = True := eq_true (by omega)
             (try rw [show ((1 : Int)).toNat = 1 from rfl] at hx344_0)
             replace p344 := eq_true p344
             replace q344 := eq_true q344
             have p354 : 0 ≤ (1 : Int) := (by omega)
             have q354 : 1 < ((rd_L2 t297 x240_2).length : Int) := of_decide_eq_true z6_3_
             obtain ⟨ad354, e354, hx354_0⟩ := Kd.at_int z6_1_ 1 p354 q354
             obtain rfl : ad343 = ad354 := (by injection e354)
             (try simp only [show (1 : Int).toNat = 1 from rfl, Nat.reduceMul, Nat.reduceEqDiff, Go.Addr.add, ↓reduceIte] at hx354_0)
             have qi354 : (1 < (rd_L2 t297 x240_2).length) = True := eq_true (by omega)
             (try rw [show ((1 : Int)).toNat = 1 from rfl] at hx354_0)
             replace p354 := eq_true p354
             replace q354 := eq_true q354
             have p355 : 0 ≤ (0 : Int) := (by omega)
             have q355 : 0 < ((rd_L2 t297 x240_2).length : Int) := of_decide_eq_true z6_3_
             obtain ⟨ad355, e355, hx355_0⟩ := Kd.at_int z6_1_ 0 p355 q355
             obtain rfl : ad343 = ad355 := (by injection e355)
             have qi355 : (0 < (rd_L2 t297 x240_2).length) = True := eq_true (by omega)
             (try rw [show ((0 : Int)).toNat = 0 from rfl] at hx355_0)
             (try rw [Addr.add_zero'] at hx355_0)
             replace p355 := eq_true p355
             replace q355 := eq_true q355
             have p356 : 0 ≤ (0 : Int) := (by omega)
             have q356 : 0 < ((rd_L2 t297 x240_2).length : Int) := of_decide_eq_true z6_3_
             obtain ⟨ad356, e356, hx356_0⟩ := Kd.at_int z6_1_ 0 p356 q356
             obtain rfl : ad343 = ad356 := (by injection e356)
             have qi356 : (0 < (rd_L2 t297 x240_2).length) = True := eq_true (by omega)
             (try rw [show ((0 : Int)).toNat = 0 from rfl] at hx356_0)
             (try rw [Addr.add_zero'] at hx356_0)
             replace p356 := eq_true p356
             replace q356 := eq_true q356
             have p357 : 0 ≤ (1 : Int) := (by omega)
             have q357 : 1 < ((rd_L2 t297 x240_2).length : Int) := of_decide_eq_true z6_3_
             obtain ⟨ad357, e357, hx357_0⟩ := Kd.at_int z6_1_ 1 p357 q357
             obtain rfl : ad343 = ad357 := (by injection e357)
             (try simp only [show (1 : Int).toNat = 1 from rfl, Nat.reduceMul, Nat.reduceEqDiff, Go.Addr.add, ↓reduceIte] at hx357_0)
             have qi357 : (1 < (rd_L2 t297 x240_2).length) = True := eq_true (by omega)
             (try rw [show ((1 : Int)).toNat = 1 from rfl] at hx357_0)
             replace p357 := eq_true p357
             replace q357 := eq_true q357
             go_wp2_with (first | (go_at_call 19; (with_reducible refine (impl_SumOfHouses.calls (rd (rd_L2 t297 x240_2) 0) (rd (rd_L2 t297 x240_2) 1) 1 t358 true _ A84.out).mono ?_); rintro e w' ⟨rfl, ⟨nd, rfl⟩⟩; (try first | exact ⟨rfl, _, World.drewN_drewN _ _ _⟩ | exact ⟨rfl, _, Eq.trans (World.drewN_drewN _ _ _) (congrArg (World.drewN _) (Nat.add_assoc _ _ _))⟩)))
             repeat (go_quiet (first | (go_at_call 19; (with_reducible refine (impl_SumOfHouses.calls (rd (rd_L2 t297 x240_2) 0) (rd (rd_L2 t297 x240_2) 1) 1 t358 true _ A84.out).mono ?_); rintro e w' ⟨rfl, ⟨nd, rfl⟩⟩; (try first | exact ⟨rfl, _, World.drewN_drewN _ _ _⟩ | exact ⟨rfl, _, Eq.trans (World.drewN_drewN _ _ _) (congrArg (World.drewN _) (Nat.add_assoc _ _ _))⟩))); try go_wp2_with (first | (go_at_call 19; (with_reducible refine (impl_SumOfHouses.calls (rd (rd_L2 t297 x240_2) 0) (rd (rd_L2 t297 x240_2) 1) 1 t358 true _ A84.out).mono ?_); rintro e w' ⟨rfl, ⟨nd, rfl⟩⟩; (try first | exact ⟨rfl, _, World.drewN_drewN _ _ _⟩ | exact ⟨rfl, _, Eq.trans (World.drewN_drewN _ _ _) (congrArg (World.drewN _) (Nat.add_assoc _ _ _))⟩))))
             go_roundg k2
             case measure => have := HJ15.out; have := HK2.out; omega
             case rel => exact ⟨(wrap64 (x240_2 + 1)), z6_6_, H', ⟨by have := HJ15.out; have := HK2.out; omega⟩, ⟨by (with_reducible repeat (first | apply Kd.N_alloc | apply Kd.N_drewN | apply Kd.N_drew)); exact HO_6.out⟩, ⟨by (with_reducible repeat (first | apply Kd.N_alloc | apply Kd.N_drewN | apply Kd.N_drew)); exact HO_20.out⟩, ⟨by (with_reducible repeat (first | apply Kd.N_alloc | apply Kd.N_drewN | apply Kd.N_drew)); exact HO_238.out⟩, ⟨by repeat (first | (with_reducible first | exact HB.out | apply below_alloc | apply pw_below_drewN | apply below_drew1) | exact HB.out)⟩⟩
          replace c85 := Bool.eq_false_iff.mpr c85
          subst c85
          rw [if_neg (show ¬ (false = true) by decide)] at H
          as_aux_lemma =>
           exact Bool.noConfusion ((Option.some.inj H).trans hr_.out)
        rw [if_neg c66] at H
        have c66b0 : decide (x240_2 < (t297.length : Int)) = false := decide_eq_false c66
        clear c66
        have H' := Aside0.mk H
        clear H
        obtain ⟨Ao87, co87, eo87⟩ := Kd.N_slice HO_20.out
        subst eo87
        go_wp2
        repeat (go_quiet (fail); try go_wp2)
        go_loopg [307] k2 (fun kq v307 w' => ∃ (x307_3 : Int), v307 = .int .i64 x307_3 ∧ Aside0 (laws_FnHousesRun.l1 kq l1 t296 t305 t315 t323 t324 t315 (t315.length : Int) x307_3 = some r) ∧ Aside0 (kq ≤ k2) ∧ Aside0 (Kd.N (Kd.slice 3 (Kd.int .i64)) 33 w' w.heap.size (fun _ => True) (.slice Ao87 t315.length co87) t315) ∧ Aside0 (Kd.N (Kd.slice 3 (Kd.int .i64)) 33 w' w.heap.size (fun _ => True) (.slice Ao87 t315.length co87) t315) ∧ Aside0 (Below w.heap.size w w'))
        case atStart => exact ⟨(0), z6_6_, H', ⟨Nat.le_refl _⟩, ⟨by (with_reducible repeat (first | apply Kd.N_alloc | apply Kd.N_drewN | apply Kd.N_drew)); exact Kd.N_mono HO_20.out (fun _ hk => trivial)⟩, ⟨by (with_reducible repeat (first | apply Kd.N_alloc | apply Kd.N_drewN | apply Kd.N_drew)); exact Kd.N_mono HO_20.out (fun _ hk => trivial)⟩, ⟨by repeat (first | (with_reducible first | exact HB.out | apply below_alloc | apply pw_below_drewN | apply below_drew1) | exact HB.out)⟩⟩
        case round =>
         clear H'
         (try clear c1);(try clear c2);(try clear p2);(try clear c3);(try clear p3);(try clear q3);(try clear hx3);(try clear qi3);(try clear c4);(try clear c5);(try clear c6);(try clear p6);(try clear c7);(try clear c8);(try clear c26);(try clear c26b0);(try clear c26b1);(try clear c26b2);(try clear c28);(try clear c29);(try clear c29b0);(try clear c29b1);(try clear c29b2);(try clear c30);(try clear c30b0);(try clear c30b1);(try clear c31);(try clear c31b0);(try clear c31b1);(try clear c31b2);(try clear c32);(try clear c32b0);(try clear c32b1);(try clear c33);(try clear c33b0);(try clear c33b1);(try clear p33);(try clear q33);(try clear hx33);(try clear c34);(try clear c34b0);(try clear c34b1);(try clear c34b2);(try clear p34);(try clear q34);(try clear hx34);(try clear qi34);(try clear p35);(try clear q35);(try clear hx35);(try clear qi35);(try clear c36);(try clear c37);(try clear c37b0);(try clear c37b1);(try clear c37b2);(try clear c38);(try clear c38b0);(try clear c38b1);(try clear c39);(try clear c39b0);(try clear c39b1);(try clear c40);(try clear c40b0);(try clear c40b1);(try clear c40b2);(try clear c41);(try clear c41b0);(try clear c41b1);(try clear c41b2);(try clear c42);(try clear c42b0);(try clear c42b1);(try clear c42b2);(try clear c43);(try clear c58);(try clear c60);(try clear c61);(try clear c61b0);(try clear c61b1);(try clear c62);(try clear c62b0);(try clear c63);(try clear c63b0);(try clear c64);(try clear c64b0);(try clear p64);(try clear c66);(try clear c66b0);(try clear c67);(try clear c67b0);(try clear c68);(try clear c68b0);(try clear c69);(try clear c69b0);(try clear c69b1);(try clear c70);(try clear c70b0);(try clear c70b1);(try clear c71);(try clear c71b0);(try clear c71b1);(try clear c72);(try clear c72b0);(try clear c73);(try clear c73b0);(try clear c75);(try clear c75b0);(try clear c76);(try clear c76b0);(try clear c77);(try clear c77b0);(try clear c77b1);(try clear c78);(try clear c78b0);(try clear c79);(try clear c79b0);(try clear c81);(try clear c82);(try clear c82b0);(try clear c82b1);(try clear c83);(try clear c83b0);(try clear c85);(try clear c86);(try clear c86b0);(try clear c86b1);(try clear hx333_0);(try clear hx343_0);(try clear hx344_0);(try clear hx345_0);(try clear hx346_0);(try clear hx347_0);(try clear hx348_0);(try clear hx349_0);(try clear hx350_0);(try clear hx351_0);(try clear hx354_0);(try clear hx355_0);(try clear hx356_0);(try clear hx357_0);(try clear p2);(try clear p333);(try clear p343);(try clear p344);(try clear p345);(try clear p346);(try clear p347);(try clear p348);(try clear p349);(try clear p350);(try clear p351);(try clear p354);(try clear p355);(try clear p356);(try clear p357);(try clear q333);(try clear q343);(try clear q344);(try clear q345);(try clear q346);(try clear q347);(try clear q348);(try clear q349);(try clear q350);(try clear q351);(try clear q354);(try clear q355);(try clear q356);(try clear q357)
         obtain ⟨x307_3, rfl, HA, HK3, HO_20, HO_305, HB⟩ := hrel
         cases gk with
         | zero => exact absurd HA.out (by simp [laws_FnHousesRun.l1])
         | succ k3 =>
          have H := HA.out
          clear HA
          simp only [laws_FnHousesRun.l1] at H
          by_cases c88 : x307_3 < (t315.length : Int)
          · rw [if_pos c88] at H
            have c88b0 : decide (x307_3 < (t315.length : Int)) = true := decide_eq_true c88
            clear c88
            by_cases c89 : 0 ≤ x307_3
            rotate_left
            · exact none_ (if_neg c89) H
            rw [if_pos c89] at H
            have c89b0 : decide (0 ≤ x307_3) = true := decide_eq_true c89
            clear c89
            by_cases c90 : x307_3 < (t315.length : Int)
            rotate_left
            · exact none_ (if_neg c90) H
            rw [if_pos c90] at H
            have c90b0 : decide (x307_3 < (t315.length : Int)) = true := decide_eq_true c90
            clear c90
            by_cases c91 : ((rd_L2 t315 x307_3).length : Int) = 2
            rotate_left
            · exact dead_ (if_neg c91) H hr_
            rw [if_pos c91] at H
            have c91b0 : (((rd_L2 t315 x307_3).length : Int) == 2) = true := beq_iff_eq.mpr c91
            have c91b1 : (((rd_L2 t315 x307_3).length : Int) != 2) = false := bne_eq_false_iff_eq.mpr c91
            clear c91
            by_cases c92 : 0 < ((rd_L2 t315 x307_3).length : Int)
            rotate_left
            · exact none_ (if_neg c92) H
            rw [if_pos c92] at H
            have c92b0 : decide (0 < ((rd_L2 t315 x307_3).length : Int)) = true := decide_eq_true c92
            have c92b1 : decide (0 < (rd_L2 t315 x307_3).length) = true := decide_eq_true (by omega)
            clear c92
            as_aux_lemma =>
            by_cases c93 : 1 < ((rd_L2 t315 x307_3).length : Int)
            rotate_left
            · exact none_ (if_neg c93) H
            rw [if_pos c93] at H
            have c93b0 : decide (1 < ((rd_L2 t315 x307_3).length : Int)) = true := decide_eq_true c93
            have c93b1 : decide (1 < (rd_L2 t315 x307_3).length) = true := decide_eq_true (by omega)
            clear c93
            by_cases c94 : (rd (rd_L2 t315 x307_3) 0) ≥ (rd (rd_L2 t315 x307_3) 1)
            · exact dead_ (if_pos c94) H hr_
            rw [if_neg c94] at H
            have c94b0 : decide ((rd (rd_L2 t315 x307_3) 1) ≤ (rd (rd_L2 t315 x307_3) 0)) = false := decide_eq_false c94
            clear c94
            by_cases c95 : (Int.tmod (wrap64 ((rd (rd_L2 t315 x307_3) 1) - (rd (rd_L2 t315 x307_3) 0))) 2) = 0
            rotate_left
            · exact dead_ (if_neg c95) H hr_
            rw [if_pos c95] at H
            have c95b0 : ((Int.tmod (wrap64 ((rd (rd_L2 t315 x307_3) 1) - (rd (rd_L2 t315 x307_3) 0))) 2) == 0) = true := beq_iff_eq.mpr c95
            have c95b1 : ((Int.tmod (wrap64 ((rd (rd_L2 t315 x307_3) 1) - (rd (rd_L2 t315 x307_3) 0))) 2) != 0) = false := bne_eq_false_iff_eq.mpr c95
            clear c95
            by_cases c96 : x307_3 > 0
            · rw [if_pos c96] at H
              have c96b0 : decide (0 < x307_3) = true := decide_eq_true c96
              clear c96
              obtain ⟨ji97, hji97⟩ : ∃ j_ : Int, (wrap64 (x307_3 - 1)) = j_ := ⟨_, rfl⟩
              replace H : (if 0 ≤ (ji97) then (if (ji97) < (t315.length : Int) then (if 0 < ((rd_L2 t315 (ji97)).length : Int) then (if (rd (rd_L2 t315 (ji97)) 0) ≥ (rd (rd_L2 t315 x307_3) 0) then (some false) else ((impl_SumOfHouses.f (rd (rd_L2 t315 x307_3) 0) (rd (rd_L2 t315 x307_3) 1) 2).bind fun bt377 => (if bt377.2 = true then (if bt377.1 = t296 then (laws_FnHousesRun.l1 k3 l1 t296 t305 t315 t323 t324 t315 (t315.length : Int) (wrap64 (x307_3 + 1))) else (some false)) else (some false)))) else (none)) else (none)) else (none)) = some r := by first | (rw [hji97] at H; exact H) | (simp only [hji97] at H ⊢; exact H)
              have hji97w : (IntKind.i64.wrap (x307_3 - 1)) = ji97 := (i64_w _).trans hji97
              by_cases c98 : 0 ≤ (ji97)
              rotate_left
              · exact none_ (if_neg c98) H
              rw [if_pos c98] at H
              have c98b0 : decide (0 ≤ (ji97)) = true := decide_eq_true c98
              clear c98
              by_cases c99 : (ji97) < (t315.length : Int)
              rotate_left
              · exact none_ (if_neg c99) H
              rw [if_pos c99] at H
              have c99b0 : decide ((ji97) < (t315.length : Int)) = true := decide_eq_true c99
              clear c99
              by_cases c100 : 0 < ((rd_L2 t315 (ji97)).length : Int)
              rotate_left
              · exact none_ (if_neg c100) H
              rw [if_pos c100] at H
              have c100b0 : decide (0 < ((rd_L2 t315 (ji97)).length : Int)) = true := decide_eq_true c100
              have c100b1 : decide (0 < (rd_L2 t315 (ji97)).length) = true := decide_eq_true (by omega)
              clear c100
              by_cases c101 : (rd (rd_L2 t315 (ji97)) 0) ≥ (rd (rd_L2 t315 x307_3) 0)
              · exact dead_ (if_pos c101) H hr_
              rw [if_neg c101] at H
              have c101b0 : decide ((rd (rd_L2 t315 x307_3) 0) ≤ (rd (rd_L2 t315 (ji97)) 0)) = false := decide_eq_false c101
              clear c101
              as_aux_lemma =>
              replace H := Option.bind_eq_some_iff.mp H
              obtain ⟨⟨t377, t378⟩, A1020, H⟩ := H
              dsimp only at H
              have A102 := Aside0.mk A1020
              clear A1020
              by_cases c103 : t378 = true
              · subst c103
                rw [if_pos rfl] at H
                by_cases c104 : t377 = t296
                rotate_left
                · exact dead_ (if_neg c104) H hr_
                rw [if_pos c104] at H
                have c104b0 : (t377 == t296) = true := beq_iff_eq.mpr c104
                have c104b1 : (t377 != t296) = false := bne_eq_false_iff_eq.mpr c104
                clear c104
                as_aux_lemma =>
                 have H' := Aside0.mk H
                 clear H
                 have p360 : 0 ≤ (x307_3 : Int) := of_decide_eq_true z6_3_
                 have q360 : x307_3 < (t315.length : Int) := of_decide_eq_true z6_3_
                 obtain ⟨ad360, A360_0, c360_0, e360, hx360_0, hl360_0, hi360_0⟩ := at_L2 (Kd.N_reads' HO_305.out).2.2 x307_3 p360 q360
                 cases e360
                 obtain ⟨ce360, hce360, hMe360, hcc360⟩ := Kd.N_get HO_305.out [] x307_3 p360 (by first | exact q360 | exact of_decide_eq_true z6_3_ | (have e_ := (Kd.N_reads' HO_305.out).1; omega))
                 obtain ⟨ua360_0, uc360_0, rfl, ul360_0, ge360_0⟩ := Kd.FK_slice_open hMe360
                 have hv360_0 := hcc360 0 _ rfl
                 rw [Nat.add_zero, show ((Kd.slice 3 (Kd.int .i64))).sz = 1 from rfl, Nat.mul_one] at hv360_0
                 replace hv360_0 := Option.some.inj (hv360_0.symm.trans hx360_0)
                 injection hv360_0 with hva_ hvn_ hvc_
                 rw [hva_] at ge360_0
                 rw [hvc_] at ul360_0
                 have HL360_0 := Aside0.mk (show Kd.V (Kd.int .i64) 3 _ w.heap.size _ _ (rd_L2 t315 x307_3) from Kd.V_mk ul360_0 ge360_0)
                 clear hva_ hvn_ hvc_ ge360_0 ul360_0
                 clear hcc360 hce360
                 have HR360_0 := Aside0.mk hi360_0
                 have HC360_0 := Aside0.mk hl360_0
                 clear hi360_0 hl360_0
                 replace p360 := eq_true p360
                 replace q360 := eq_true q360
                 have p368 : 0 ≤ (0 : Int) := (by omega)
                 have q368 : 0 < ((rd_L2 t315 x307_3).length : Int) := of_decide_eq_true z6_3_
                 obtain ⟨ad368, e368, hx368_0⟩ := Kd.at_int z6_2_ 0 p368 q368
                 cases e368
                 have qi368 : (0 < (rd_L2 t315 x307_3).length) = True := eq_true (by omega)
                 (try rw [show ((0 : Int)).toNat = 0 from rfl] at hx368_0)
                 (try rw [Addr.add_zero'] at hx368_0)
                 replace p368 := eq_true p368
                 replace q368 := eq_true q368
                 have p369 : 0 ≤ (1 : Int) := (by omega)
                 have q369 : 1 < ((rd_L2 t315 x307_3).length : Int) := of_decide_eq_true z6_3_
                 obtain ⟨ad369, e369, hx369_0⟩ := Kd.at_int z6_2_ 1 p369 q369
                 obtain rfl : ad368 = ad369 := (by injection e369)
                 (try simp only [show (1 : Int).toNat = 1 from rfl, Nat.reduceMul, Nat.reduceEqDiff, Go.Addr.add, ↓reduceIte] at hx369_0)
                 have qi369 : (1 < (rd_L2 t315 x307_3).length) = True := eq_true (by omega)
                 (try rw [show ((1 : Int)).toNat = 1 from rfl] at hx369_0)
                 replace p369 := eq_true p369
                 replace q369 := eq_true q369
                 have p370 : 0 ≤ (1 : Int) := (by omega)
                 have q370 : 1 < ((rd_L2 t315 x307_3).length : Int) := of_decide_eq_true z6_3_
                 obtain ⟨ad370, e370, hx370_0⟩ := Kd.at_int z6_2_ 1 p370 q370
                 obtain rfl : ad368 = ad370 := (by injection e370)
                 (try simp only [show (1 : Int).toNat = 1 from rfl, Nat.reduceMul, Nat.reduceEqDiff, Go.Addr.add, ↓reduceIte] at hx370_0)
                 have qi370 : (1 < (rd_L2 t315 x307_3).length) = True := eq_true (by omega)
                 (try rw [show ((1 : Int)).toNat = 1 from rfl] at hx370_0)
                 replace p370 := eq_true p370
                 replace q370 := eq_true q370
                 have p371 : 0 ≤ (0 : Int) := (by omega)
                 have q371 : 0 < ((rd_L2 t315 x307_3).length : Int) := of_decide_eq_true z6_3_
                 obtain ⟨ad371, e371, hx371_0⟩ := Kd.at_int z6_2_ 0 p371 q371
                 obtain rfl : ad368 = ad371 := (by injection e371)
                 have qi371 : (0 < (rd_L2 t315 x307_3).length) = True := eq_true (by omega)
                 (try rw [show ((0 : Int)).toNat = 0 from rfl] at hx371_0)
                 (try rw [Addr.add_zero'] at hx371_0)
                 replace p371 := eq_true p371
                 replace q371 := eq_true q371
                 have p372 : 0 ≤ ((ji97) : Int) := of_decide_eq_true z6_3_
                 have q372 : (ji97) < (t315.length : Int) := of_decide_eq_true z6_3_
                 obtain ⟨ad372, A372_0, c372_0, e372, hx372_0, hl372_0, hi372_0⟩ := at_L2 (Kd.N_reads' HO_20.out).2.2 (ji97) p372 q372
                 obtain rfl : ad360 = ad372 := (by injection e372)
                 obtain ⟨ce372, hce372, hMe372, hcc372⟩ := Kd.N_get HO_20.out [] (ji97) p372 (by first | exact q372 | exact of_decide_eq_true z6_3_ | (have e_ := (Kd.N_reads' HO_20.out).1; omega))
                 obtain ⟨ua372_0, uc372_0, rfl, ul372_0, ge372_0⟩ := Kd.FK_slice_open hMe372
                 have hv372_0 := hcc372 0 _ rfl
                 rw [Nat.add_zero, show ((Kd.slice 3 (Kd.int .i64))).sz = 1 from rfl, Nat.mul_one] at hv372_0
                 replace hv372_0 := Option.some.inj (hv372_0.symm.trans hx372_0)
                 injection hv372_0 with hva_ hvn_ hvc_
                 rw [hva_] at ge372_0
                 rw [hvc_] at ul372_0
                 have HL372_0 := Aside0.mk (show Kd.V (Kd.int .i64) 3 _ w.heap.size _ _ (rd_L2 t315 (ji97)) from Kd.V_mk ul372_0 ge372_0)
                 clear hva_ hvn_ hvc_ ge372_0 ul372_0
                 clear hcc372 hce372
                 have HR372_0 := Aside0.mk hi372_0
                 have HC372_0 := Aside0.mk hl372_0
                 clear hi372_0 hl372_0
                 replace p372 := eq_true p372
                 replace q372 := eq_true q372
                 have p373 : 0 ≤ (0 : Int) := (by omega)
                 have q373 : 0 < ((rd_L2 t315 (ji97)).length : Int) := of_decide_eq_true z6_3_
                 obtain ⟨ad373, e373, hx373_0⟩ := Kd.at_int (by repeat (first | (with_reducible exact HR372_0.out) | (with_reducible refine Kd.C_alloc ?_ _) | (with_reducible refine Kd.C_drewN ?_ _) | (with_reducible refine Kd.C_drew ?_) | exact HR372_0.out)) 0 p373 q373
                 cases e373
                 have qi373 : (0 < (rd_L2 t315 (ji97)).length) = True := eq_true (by omega)
                 (try rw [show ((0 : Int)).toNat = 0 from rfl] at hx373_0)
                 (try rw [Addr.add_zero'] at hx373_0)
                 replace p373 := eq_true p373
                 replace q373 := eq_true q373
                 have p374 : 0 ≤ (0 : Int) := (by omega)
                 have q374 : 0 < ((rd_L2 t315 x307_3).length : Int) := of_decide_eq_true z6_3_
                 obtain ⟨ad374, e374, hx374_0⟩ := Kd.at_int z6_2_ 0 p374 q374
                 obtain rfl : ad368 = ad374 := (by injection e374)
                 have qi374 : (0 < (rd_L2 t315 x307_3).length) = True := eq_true (by omega)
                 (try rw [show ((0 : Int)).toNat = 0 from rfl] at hx374_0)
                 (try rw [Addr.add_zero'] at hx374_0)
                 replace p374 := eq_true p374
                 replace q374 := eq_true q374
                 have p375 : 0 ≤ (0 : Int) := (by omega)
                 have q375 : 0 < ((rd_L2 t315 x307_3).length : Int) := of_decide_eq_true z6_3_
                 obtain ⟨ad375, e375, hx375_0⟩ := Kd.at_int z6_2_ 0 p375 q375
                 obtain rfl : ad368 = ad375 := (by injection e375)
                 have qi375 : (0 < (rd_L2 t315 x307_3).length) = True := eq_true (by omega)
                 (try rw [show ((0 : Int)).toNat = 0 from rfl] at hx375_0)
                 (try rw [Addr.add_zero'] at hx375_0)
                 replace p375 := eq_true p375
                 replace q375 := eq_true q375
                 have p376 : 0 ≤ (1 : Int) := (by omega)
                 have q376 : 1 < ((rd_L2 t315 x307_3).length : Int) := of_decide_eq_true z6_3_
                 obtain ⟨ad376, e376, hx376_0⟩ := Kd.at_int z6_2_ 1 p376 q376
                 obtain rfl : ad368 = ad376 := (by injection e376)
                 (try simp only [show (1 : Int).toNat = 1 from rfl, Nat.reduceMul, Nat.reduceEqDiff, Go.Addr.add, ↓reduceIte] at hx376_0)
                 have qi376 : (1 < (rd_L2 t315 x307_3).length) = True := eq_true (by omega)
                 (try rw [show ((1 : Int)).toNat = 1 from rfl] at hx376_0)
                 replace p376 := eq_true p376
                 replace q376 := eq_true q376
                 go_wp2_with (first | (go_at_call 19; (with_reducible refine (impl_SumOfHouses.calls (rd (rd_L2 t315 x307_3) 0) (rd (rd_L2 t315 x307_3) 1) 2 t377 true _ A102.out).mono ?_); rintro e w' ⟨rfl, ⟨nd, rfl⟩⟩; (try first | exact ⟨rfl, _, World.drewN_drewN _ _ _⟩ | exact ⟨rfl, _, Eq.trans (World.drewN_drewN _ _ _) (congrArg (World.drewN _) (Nat.add_assoc _ _ _))⟩)))
                 repeat (go_quiet (first | (go_at_call 19; (with_reducible refine (impl_SumOfHouses.calls (rd (rd_L2 t315 x307_3) 0) (rd (rd_L2 t315 x307_3) 1) 2 t377 true _ A102.out).mono ?_); rintro e w' ⟨rfl, ⟨nd, rfl⟩⟩; (try first | exact ⟨rfl, _, World.drewN_drewN _ _ _⟩ | exact ⟨rfl, _, Eq.trans (World.drewN_drewN _ _ _) (congrArg (World.drewN _) (Nat.add_assoc _ _ _))⟩))); try go_wp2_with (first | (go_at_call 19; (with_reducible refine (impl_SumOfHouses.calls (rd (rd_L2 t315 x307_3) 0) (rd (rd_L2 t315 x307_3) 1) 2 t377 true _ A102.out).mono ?_); rintro e w' ⟨rfl, ⟨nd, rfl⟩⟩; (try first | exact ⟨rfl, _, World.drewN_drewN _ _ _⟩ | exact ⟨rfl, _, Eq.trans (World.drewN_drewN _ _ _) (congrArg (World.drewN _) (Nat.add_assoc _ _ _))⟩))))
                 go_roundg k3
                 case measure => have := HJ15.out; have := HK2.out; have := HK3.out; omega
                 case rel => exact ⟨(wrap64 (x307_3 + 1)), z6_6_, H', ⟨by have := HJ15.out; have := HK2.out; have := HK3.out; omega⟩, ⟨by (with_reducible repeat (first | apply Kd.N_alloc | apply Kd.N_drewN | apply Kd.N_drew)); exact HO_20.out⟩, ⟨by (with_reducible repeat (first | apply Kd.N_alloc | apply Kd.N_drewN | apply Kd.N_drew)); exact HO_305.out⟩, ⟨by repeat (first | (with_reducible first | exact HB.out | apply below_alloc | apply pw_below_drewN | apply below_drew1) | exact HB.out)⟩⟩
              replace c103 := Bool.eq_false_iff.mpr c103
              subst c103
              rw [if_neg (show ¬ (false = true) by decide)] at H
              as_aux_lemma =>
               exact Bool.noConfusion ((Option.some.inj H).trans hr_.out)
            rw [if_neg c96] at H
            have c96b0 : decide (0 < x307_3) = false := decide_eq_false c96
            clear c96
            as_aux_lemma =>
            replace H := Option.bind_eq_some_iff.mp H
            obtain ⟨⟨t381, t382⟩, A1050, H⟩ := H
            dsimp only at H
            have A105 := Aside0.mk A1050
            clear A1050
            by_cases c106 : t382 = true
            · subst c106
              rw [if_pos rfl] at H
              by_cases c107 : t381 = t296
              rotate_left
              · exact dead_ (if_neg c107) H hr_
              rw [if_pos c107] at H
              have c107b0 : (t381 == t296) = true := beq_iff_eq.mpr c107
              have c107b1 : (t381 != t296) = false := bne_eq_false_iff_eq.mpr c107
              clear c107
              as_aux_lemma =>
               have H' := Aside0.mk H
               clear H
               have p360 : 0 ≤ (x307_3 : Int) := of_decide_eq_true z6_3_
               have q360 : x307_3 < (t315.length : Int) := of_decide_eq_true z6_3_
               obtain ⟨ad360, A360_0, c360_0, e360, hx360_0, hl360_0, hi360_0⟩ := at_L2 (Kd.N_reads' HO_305.out).2.2 x307_3 p360 q360
               cases e360
               obtain ⟨ce360, hce360, hMe360, hcc360⟩ := Kd.N_get HO_305.out [] x307_3 p360 (by first | exact q360 | exact of_decide_eq_true z6_3_ | (have e_ := (Kd.N_reads' HO_305.out).1; omega))
               obtain ⟨ua360_0, uc360_0, rfl, ul360_0, ge360_0⟩ := Kd.FK_slice_open hMe360
               have hv360_0 := hcc360 0 _ rfl
               rw [Nat.add_zero, show ((Kd.slice 3 (Kd.int .i64))).sz = 1 from rfl, Nat.mul_one] at hv360_0
               replace hv360_0 := Option.some.inj (hv360_0.symm.trans hx360_0)
               injection hv360_0 with hva_ hvn_ hvc_
               rw [hva_] at ge360_0
               rw [hvc_] at ul360_0
               have HL360_0 := Aside0.mk (show Kd.V (Kd.int .i64) 3 _ w.heap.size _ _ (rd_L2 t315 x307_3) from Kd.V_mk ul360_0 ge360_0)
               clear hva_ hvn_ hvc_ ge360_0 ul360_0
               clear hcc360 hce360
               have HR360_0 := Aside0.mk hi360_0
               have HC360_0 := Aside0.mk hl360_0
               clear hi360_0 hl360_0
               replace p360 := eq_true p360
               replace q360 := eq_true q360
               have p368 : 0 ≤ (0 : Int) := (by omega)
               have q368 : 0 < ((rd_L2 t315 x307_3).length : Int) := of_decide_eq_true z6_3_
               obtain ⟨ad368, e368, hx368_0⟩ := Kd.at_int z6_2_ 0 p368 q368
               cases e368
               have qi368 : (0 < (rd_L2 t315 x307_3).length) = True := eq_true (by omega)
               (try rw [show ((0 : Int)).toNat = 0 from rfl] at hx368_0)
               (try rw [Addr.add_zero'] at hx368_0)
               replace p368 := eq_true p368
               replace q368 := eq_true q368
               have p369 : 0 ≤ (1 : Int) := (by omega)
               have q369 : 1 < ((rd_L2 t315 x307_3).length : Int) := of_decide_eq_true z6_3_
               obtain ⟨ad369, e369, hx369_0⟩ := Kd.at_int z6_2_ 1 p369 q369
               obtain rfl : ad368 = ad369 := (by injection e369)
               (try simp only [show (1 : Int).toNat = 1 from rfl, Nat.reduceMul, Nat.reduceEqDiff, Go.Addr.add, ↓reduceIte] at hx369_0)
               have qi369 : (1 < (rd_L2 t315 x307_3).length) = True := eq_true (by omega)
               (try rw [show ((1 : Int)).toNat = 1 from rfl] at hx369_0)
               replace p369 := eq_true p369
               replace q369 := eq_true q369
               have p370 : 0 ≤ (1 : Int) := (by omega)
               have q370 : 1 < ((rd_L2 t315 x307_3).length : Int) := of_decide_eq_true z6_3_
               obtain ⟨ad370, e370, hx370_0⟩ := Kd.at_int z6_2_ 1 p370 q370
               obtain rfl : ad368 = ad370 := (by injection e370)
               (try simp only [show (1 : Int).toNat = 1 from rfl, Nat.reduceMul, Nat.reduceEqDiff, Go.Addr.add, ↓reduceIte] at hx370_0)
               have qi370 : (1 < (rd_L2 t315 x307_3).length) = True := eq_true (by omega)
               (try rw [show ((1 : Int)).toNat = 1 from rfl] at hx370_0)
               replace p370 := eq_true p370
               replace q370 := eq_true q370
               have p371 : 0 ≤ (0 : Int) := (by omega)
               have q371 : 0 < ((rd_L2 t315 x307_3).length : Int) := of_decide_eq_true z6_3_
               obtain ⟨ad371, e371, hx371_0⟩ := Kd.at_int z6_2_ 0 p371 q371
               obtain rfl : ad368 = ad371 := (by injection e371)
               have qi371 : (0 < (rd_L2 t315 x307_3).length) = True := eq_true (by omega)
               (try rw [show ((0 : Int)).toNat = 0 from rfl] at hx371_0)
               (try rw [Addr.add_zero'] at hx371_0)
               replace p371 := eq_true p371
               replace q371 := eq_true q371
               have p379 : 0 ≤ (0 : Int) := (by omega)
               have q379 : 0 < ((rd_L2 t315 x307_3).length : Int) := of_decide_eq_true z6_3_
               obtain ⟨ad379, e379, hx379_0⟩ := Kd.at_int z6_2_ 0 p379 q379
               obtain rfl : ad368 = ad379 := (by injection e379)
               have qi379 : (0 < (rd_L2 t315 x307_3).length) = True := eq_true (by omega)
               (try rw [show ((0 : Int)).toNat = 0 from rfl] at hx379_0)
               (try rw [Addr.add_zero'] at hx379_0)
               replace p379 := eq_true p379
               replace q379 := eq_true q379
               have p380 : 0 ≤ (1 : Int) := (by omega)
               have q380 : 1 < ((rd_L2 t315 x307_3).length : Int) := of_decide_eq_true z6_3_
               obtain ⟨ad380, e380, hx380_0⟩ := Kd.at_int z6_2_ 1 p380 q380
               obtain rfl : ad368 = ad380 := (by injection e380)
               (try simp only [show (1 : Int).toNat = 1 from rfl, Nat.reduceMul, Nat.reduceEqDiff, Go.Addr.add, ↓reduceIte] at hx380_0)
               have qi380 : (1 < (rd_L2 t315 x307_3).length) = True := eq_true (by omega)
               (try rw [show ((1 : Int)).toNat = 1 from rfl] at hx380_0)
               replace p380 := eq_true p380
               replace q380 := eq_true q380
               go_wp2_with (first | (go_at_call 19; (with_reducible refine (impl_SumOfHouses.calls (rd (rd_L2 t315 x307_3) 0) (rd (rd_L2 t315 x307_3) 1) 2 t381 true _ A105.out).mono ?_); rintro e w' ⟨rfl, ⟨nd, rfl⟩⟩; (try first | exact ⟨rfl, _, World.drewN_drewN _ _ _⟩ | exact ⟨rfl, _, Eq.trans (World.drewN_drewN _ _ _) (congrArg (World.drewN _) (Nat.add_assoc _ _ _))⟩)))
               repeat (go_quiet (first | (go_at_call 19; (with_reducible refine (impl_SumOfHouses.calls (rd (rd_L2 t315 x307_3) 0) (rd (rd_L2 t315 x307_3) 1) 2 t381 true _ A105.out).mono ?_); rintro e w' ⟨rfl, ⟨nd, rfl⟩⟩; (try first | exact ⟨rfl, _, World.drewN_drewN _ _ _⟩ | exact ⟨rfl, _, Eq.trans (World.drewN_drewN _ _ _) (congrArg (World.drewN _) (Nat.add_assoc _ _ _))⟩))); try go_wp2_with (first | (go_at_call 19; (with_reducible refine (impl_SumOfHouses.calls (rd (rd_L2 t315 x307_3) 0) (rd (rd_L2 t315 x307_3) 1) 2 t381 true _ A105.out).mono ?_); rintro e w' ⟨rfl, ⟨nd, rfl⟩⟩; (try first | exact ⟨rfl, _, World.drewN_drewN _ _ _⟩ | exact ⟨rfl, _, Eq.trans (World.drewN_drewN _ _ _) (congrArg (World.drewN _) (Nat.add_assoc _ _ _))⟩))))
               go_roundg k3
               case measure => have := HJ15.out; have := HK2.out; have := HK3.out; omega
               case rel => exact ⟨(wrap64 (x307_3 + 1)), z6_6_, H', ⟨by have := HJ15.out; have := HK2.out; have := HK3.out; omega⟩, ⟨by (with_reducible repeat (first | apply Kd.N_alloc | apply Kd.N_drewN | apply Kd.N_drew)); exact HO_20.out⟩, ⟨by (with_reducible repeat (first | apply Kd.N_alloc | apply Kd.N_drewN | apply Kd.N_drew)); exact HO_305.out⟩, ⟨by repeat (first | (with_reducible first | exact HB.out | apply below_alloc | apply pw_below_drewN | apply below_drew1) | exact HB.out)⟩⟩
            replace c106 := Bool.eq_false_iff.mpr c106
            subst c106
            rw [if_neg (show ¬ (false = true) by decide)] at H
            as_aux_lemma =>
             exact Bool.noConfusion ((Option.some.inj H).trans hr_.out)
          rw [if_neg c88] at H
          have c88b0 : decide (x307_3 < (t315.length : Int)) = false := decide_eq_false c88
          clear c88
          have H' := Aside0.mk H
          clear H
          go_wp2
          repeat (go_quiet (fail); try go_wp2)
          go_loopg [38] k3 (fun kq v38 w' => ∃ (x38_4 : Int), v38 = .int .i64 x38_4 ∧ Aside0 (laws_FnHousesRun.l2 kq l1 t296 t305 t323 t324 x38_4 = some r) ∧ Aside0 (kq ≤ k3) ∧ Aside0 (Below w.heap.size w w'))
          case atStart => exact ⟨(t296), z6_6_, H', ⟨Nat.le_refl _⟩, ⟨by repeat (first | (with_reducible first | exact HB.out | apply below_alloc | apply pw_below_drewN | apply below_drew1) | exact HB.out)⟩⟩
          case round =>
           clear H'
           (try clear c1);(try clear c2);(try clear p2);(try clear c3);(try clear p3);(try clear q3);(try clear hx3);(try clear qi3);(try clear c4);(try clear c5);(try clear c6);(try clear p6);(try clear c7);(try clear c8);(try clear c9);(try clear c10);(try clear c26);(try clear c26b0);(try clear c26b1);(try clear c26b2);(try clear c28);(try clear c29);(try clear c29b0);(try clear c29b1);(try clear c29b2);(try clear c30);(try clear c30b0);(try clear c30b1);(try clear c31);(try clear c31b0);(try clear c31b1);(try clear c31b2);(try clear c32);(try clear c32b0);(try clear c32b1);(try clear c33);(try clear c33b0);(try clear c33b1);(try clear p33);(try clear q33);(try clear hx33);(try clear c34);(try clear c34b0);(try clear c34b1);(try clear c34b2);(try clear p34);(try clear q34);(try clear hx34);(try clear qi34);(try clear p35);(try clear q35);(try clear hx35);(try clear qi35);(try clear c36);(try clear p36);(try clear q36);(try clear hx36);(try clear qi36);(try clear c37);(try clear c37b0);(try clear c37b1);(try clear c37b2);(try clear p37);(try clear q37);(try clear hx37);(try clear qi37);(try clear c38);(try clear c38b0);(try clear c38b1);(try clear p38);(try clear q38);(try clear hx38);(try clear qi38);(try clear c39);(try clear c39b0);(try clear c39b1);(try clear c40);(try clear c40b0);(try clear c40b1);(try clear c40b2);(try clear c41);(try clear c41b0);(try clear c41b1);(try clear c41b2);(try clear c42);(try clear c42b0);(try clear c42b1);(try clear c42b2);(try clear c43);(try clear c58);(try clear c60);(try clear c61);(try clear c61b0);(try clear c61b1);(try clear c62);(try clear c62b0);(try clear c63);(try clear c63b0);(try clear c64);(try clear c64b0);(try clear p64);(try clear c66);(try clear c66b0);(try clear c67);(try clear c67b0);(try clear c68);(try clear c68b0);(try clear c69);(try clear c69b0);(try clear c69b1);(try clear c70);(try clear c70b0);(try clear c70b1);(try clear c71);(try clear c71b0);(try clear c71b1);(try clear c72);(try clear c72b0);(try clear c73);(try clear c73b0);(try clear c75);(try clear c75b0);(try clear c76);(try clear c76b0);(try clear c77);(try clear c77b0);(try clear c77b1);(try clear c78);(try clear c78b0);(try clear c79);(try clear c79b0);(try clear c81);(try clear c82);(try clear c82b0);(try clear c82b1);(try clear c83);(try clear c83b0);(try clear c85);(try clear c86);(try clear c86b0);(try clear c86b1);(try clear c88);(try clear c88b0);(try clear c89);(try clear c89b0);(try clear c90);(try clear c90b0);(try clear c91);(try clear c91b0);(try clear c91b1);(try clear c92);(try clear c92b0);(try clear c92b1);(try clear c93);(try clear c93b0);(try clear c93b1);(try clear c94);(try clear c94b0);(try clear c95);(try clear c95b0);(try clear c95b1);(try clear c96);(try clear c96b0);(try clear c98);(try clear c98b0);(try clear c99);(try clear c99b0);(try clear c100);(try clear c100b0);(try clear c100b1);(try clear c101);(try clear c101b0);(try clear c103);(try clear c104);(try clear c104b0);(try clear c104b1);(try clear c106)
           (try clear c107);(try clear c107b0);(try clear c107b1);(try clear hx333_0);(try clear hx343_0);(try clear hx344_0);(try clear hx345_0);(try clear hx346_0);(try clear hx347_0);(try clear hx348_0);(try clear hx349_0);(try clear hx350_0);(try clear hx351_0);(try clear hx354_0);(try clear hx355_0);(try clear hx356_0);(try clear hx357_0);(try clear hx360_0);(try clear hx368_0);(try clear hx369_0);(try clear hx370_0);(try clear hx371_0);(try clear hx372_0);(try clear hx373_0);(try clear hx374_0);(try clear hx375_0);(try clear hx376_0);(try clear hx379_0);(try clear hx380_0);(try clear p2);(try clear p3);(try clear p33);(try clear p333);(try clear p34);(try clear p343);(try clear p344);(try clear p345);(try clear p346);(try clear p347);(try clear p348);(try clear p349);(try clear p35);(try clear p350);(try clear p351);(try clear p354);(try clear p355);(try clear p356);(try clear p357);(try clear p360);(try clear p368);(try clear p369);(try clear p370);(try clear p371);(try clear p372);(try clear p373);(try clear p374);(try clear p375);(try clear p376);(try clear p379);(try clear p380);(try clear p6);(try clear p64);(try clear q3);(try clear q33);(try clear q333);(try clear q34);(try clear q343);(try clear q344);(try clear q345);(try clear q346);(try clear q347);(try clear q348);(try clear q349);(try clear q35);(try clear q350);(try clear q351);(try clear q354);(try clear q355);(try clear q356);(try clear q357);(try clear q360);(try clear q368);(try clear q369);(try clear q370);(try clear q371);(try clear q372);(try clear q373);(try clear q374);(try clear q375);(try clear q376);(try clear q379);(try clear q380)
           obtain ⟨x38_4, rfl, HA, HK4, HB⟩ := hrel
           cases gk with
           | zero => exact absurd HA.out (by simp [laws_FnHousesRun.l2])
           | succ k4 =>
            have H := HA.out
            clear HA
            simp only [laws_FnHousesRun.l2] at H
            by_cases c108 : (Int.tmod x38_4 2) = 0
            · rw [if_pos c108] at H
              have c108b0 : ((Int.tmod x38_4 2) == 0) = true := beq_iff_eq.mpr c108
              have c108b1 : ((Int.tmod x38_4 2) != 0) = false := bne_eq_false_iff_eq.mpr c108
              clear c108
              as_aux_lemma =>
               have H' := Aside0.mk H
               clear H
               go_wp2
               repeat (go_quiet (fail); try go_wp2)
               go_roundg k4
               case measure => have := HJ15.out; have := HK2.out; have := HK3.out; have := HK4.out; omega
               case rel => exact ⟨(wrap64 (Int.tdiv x38_4 2)), z6_6_, H', ⟨by have := HJ15.out; have := HK2.out; have := HK3.out; have := HK4.out; omega⟩, ⟨by repeat (first | (with_reducible first | exact HB.out | apply below_alloc | apply pw_below_drewN | apply below_drew1) | exact HB.out)⟩⟩
            rw [if_neg c108] at H
            have c108b0 : ((Int.tmod x38_4 2) == 0) = false := beq_eq_false_iff_ne.mpr c108
            have c108b1 : ((Int.tmod x38_4 2) != 0) = true := bne_iff_ne.mpr c108
            replace H := Option.bind_eq_some_iff.mp H
            obtain ⟨⟨t383, t384⟩, A1090, H⟩ := H
            dsimp only at H
            have A109 := Aside0.mk A1090
            clear A1090
            by_cases c110 : ((t305 == 0) != (x38_4 == 1)) = true
            · exact dead_ (if_pos c110) H hr_
            rw [if_neg c110] at H
            have c110b0 : ((t305 == 0) != (x38_4 == 1)) = false := by simpa using c110
            (try (have c110b1 : decide ((t305 == 0) = (x38_4 == 1)) = true := by simpa using c110))
            (try (have c110b2 : ((t305 == 0) == (x38_4 == 1)) = true := by simpa using c110))
            clear c110
            as_aux_lemma =>
            by_cases c111 : t384 = true
            · subst c111
              rw [if_pos rfl] at H
              by_cases c112 : (wrap64 (t383 - t324)) = t296
              rotate_left
              · exact dead_ (if_neg c112) H hr_
              rw [if_pos c112] at H
              have c112b0 : ((wrap64 (t383 - t324)) == t296) = true := beq_iff_eq.mpr c112
              have c112b1 : ((wrap64 (t383 - t324)) != t296) = false := bne_eq_false_iff_eq.mpr c112
              clear c112
              as_aux_lemma =>
               have H' := Aside0.mk H
               clear H
               go_wp2_with (first | (go_at_call 19; (with_reducible refine (impl_SumOfHouses.calls 1 t323 1 t383 true _ A109.out).mono ?_); rintro e w' ⟨rfl, ⟨nd, rfl⟩⟩; (try first | exact ⟨rfl, _, World.drewN_drewN _ _ _⟩ | exact ⟨rfl, _, Eq.trans (World.drewN_drewN _ _ _) (congrArg (World.drewN _) (Nat.add_assoc _ _ _))⟩)))
               repeat (go_quiet (first | (go_at_call 19; (with_reducible refine (impl_SumOfHouses.calls 1 t323 1 t383 true _ A109.out).mono ?_); rintro e w' ⟨rfl, ⟨nd, rfl⟩⟩; (try first | exact ⟨rfl, _, World.drewN_drewN _ _ _⟩ | exact ⟨rfl, _, Eq.trans (World.drewN_drewN _ _ _) (congrArg (World.drewN _) (Nat.add_assoc _ _ _))⟩))); try go_wp2_with (first | (go_at_call 19; (with_reducible refine (impl_SumOfHouses.calls 1 t323 1 t383 true _ A109.out).mono ?_); rintro e w' ⟨rfl, ⟨nd, rfl⟩⟩; (try first | exact ⟨rfl, _, World.drewN_drewN _ _ _⟩ | exact ⟨rfl, _, Eq.trans (World.drewN_drewN _ _ _) (congrArg (World.drewN _) (Nat.add_assoc _ _ _))⟩))))
               go_meet
               case rel => exact ⟨_, H', ⟨by have := HJ15.out; have := HK2.out; have := HK3.out; have := HK4.out; first | omega | exact Nat.le_refl _⟩, ⟨by repeat (first | (with_reducible first | exact HB.out | apply below_alloc | apply pw_below_drewN | apply below_drew1) | exact HB.out)⟩⟩
            replace c111 := Bool.eq_false_iff.mpr c111
            subst c111
            rw [if_neg (show ¬ (false = true) by decide)] at H
            as_aux_lemma =>
             exact Bool.noConfusion ((Option.some.inj H).trans hr_.out)
    replace c60 := Bool.eq_false_iff.mpr c60
    subst c60
    rw [if_neg (show ¬ (false = true) by decide)] at H
    as_aux_lemma =>
     have H' := Aside0.mk H
     clear H
     go_wp2
     repeat (go_quiet (fail); try go_wp2)
     go_meet
     case rel => exact ⟨_, H', ⟨by have := HJ15.out; first | omega | exact Nat.le_refl _⟩, ⟨by repeat (first | (with_reducible first | exact HB.out | apply below_alloc | apply pw_below_drewN | apply below_drew1) | exact HB.out)⟩⟩
   case rest =>
    as_aux_lemma =>
    clear HC59
    (try clear c1);(try clear c2);(try clear p2);(try clear c3);(try clear p3);(try clear q3);(try clear hx3);(try clear qi3);(try clear c4);(try clear c5);(try clear c6);(try clear p6);(try clear c7);(try clear c8);(try clear c9);(try clear c10);(try clear c11);(try clear c26);(try clear c26b0);(try clear c26b1);(try clear c26b2);(try clear c28);(try clear c29);(try clear c29b0);(try clear c29b1);(try clear c29b2);(try clear c30);(try clear c30b0);(try clear c30b1);(try clear c31);(try clear c31b0);(try clear c31b1);(try clear c31b2);(try clear c32);(try clear c32b0);(try clear c32b1);(try clear c33);(try clear c33b0);(try clear c33b1);(try clear p33);(try clear q33);(try clear hx33);(try clear c34);(try clear c34b0);(try clear c34b1);(try clear c34b2);(try clear p34);(try clear q34);(try clear hx34);(try clear qi34);(try clear p35);(try clear q35);(try clear hx35);(try clear qi35);(try clear c36);(try clear p36);(try clear q36);(try clear hx36);(try clear qi36);(try clear c37);(try clear c37b0);(try clear c37b1);(try clear c37b2);(try clear p37);(try clear q37);(try clear hx37);(try clear qi37);(try clear c38);(try clear c38b0);(try clear c38b1);(try clear p38);(try clear q38);(try clear hx38);(try clear qi38);(try clear c39);(try clear c39b0);(try clear c39b1);(try clear c40);(try clear c40b0);(try clear c40b1);(try clear c40b2);(try clear c41);(try clear c41b0);(try clear c41b1);(try clear c41b2);(try clear c42);(try clear c42b0);(try clear c42b1);(try clear c42b2);(try clear c43);(try clear c58);(try clear c60);(try clear c61);(try clear c61b0);(try clear c61b1);(try clear c62);(try clear c62b0);(try clear c63);(try clear c63b0);(try clear c64);(try clear c64b0);(try clear p64);(try clear c66);(try clear c66b0);(try clear c67);(try clear c67b0);(try clear c68);(try clear c68b0);(try clear c69);(try clear c69b0);(try clear c69b1);(try clear c70);(try clear c70b0);(try clear c70b1);(try clear c71);(try clear c71b0);(try clear c71b1);(try clear c72);(try clear c72b0);(try clear c73);(try clear c73b0);(try clear c75);(try clear c75b0);(try clear c76);(try clear c76b0);(try clear c77);(try clear c77b0);(try clear c77b1);(try clear c78);(try clear c78b0);(try clear c79);(try clear c79b0);(try clear c81);(try clear c82);(try clear c82b0);(try clear c82b1);(try clear c83);(try clear c83b0);(try clear c85);(try clear c86);(try clear c86b0);(try clear c86b1);(try clear c88);(try clear c88b0);(try clear c89);(try clear c89b0);(try clear c90);(try clear c90b0);(try clear c91);(try clear c91b0);(try clear c91b1);(try clear c92);(try clear c92b0);(try clear c92b1);(try clear c93);(try clear c93b0);(try clear c93b1);(try clear c94);(try clear c94b0);(try clear c95);(try clear c95b0);(try clear c95b1);(try clear c96);(try clear c96b0);(try clear c98);(try clear c98b0);(try clear c99);(try clear c99b0);(try clear c100);(try clear c100b0);(try clear c100b1);(try clear c101);(try clear c101b0);(try clear c103);(try clear c104);(try clear c104b0);(try clear c104b1)
    (try clear c106);(try clear c107);(try clear c107b0);(try clear c107b1);(try clear c108);(try clear c108b0);(try clear c108b1);(try clear c110);(try clear c110b0);(try clear c110b1);(try clear c110b2);(try clear c111);(try clear c112);(try clear c112b0);(try clear c112b1);(try clear hx333_0);(try clear hx343_0);(try clear hx344_0);(try clear hx345_0);(try clear hx346_0);(try clear hx347_0);(try clear hx348_0);(try clear hx349_0);(try clear hx350_0);(try clear hx351_0);(try clear hx354_0);(try clear hx355_0);(try clear hx356_0);(try clear hx357_0);(try clear hx360_0);(try clear hx368_0);(try clear hx369_0);(try clear hx370_0);(try clear hx371_0);(try clear hx372_0);(try clear hx373_0);(try clear hx374_0);(try clear hx375_0);(try clear hx376_0);(try clear hx379_0);(try clear hx380_0);(try clear p2);(try clear p3);(try clear p33);(try clear p333);(try clear p34);(try clear p343);(try clear p344);(try clear p345);(try clear p346);(try clear p347);(try clear p348);(try clear p349);(try clear p35);(try clear p350);(try clear p351);(try clear p354);(try clear p355);(try clear p356);(try clear p357);(try clear p36);(try clear p360);(try clear p368);(try clear p369);(try clear p37);(try clear p370);(try clear p371);(try clear p372);(try clear p373);(try clear p374);(try clear p375);(try clear p376);(try clear p379);(try clear p38);(try clear p380);(try clear p6);(try clear p64);(try clear q3);(try clear q33);(try clear q333);(try clear q34);(try clear q343);(try clear q344);(try clear q345);(try clear q346);(try clear q347);(try clear q348);(try clear q349);(try clear q35);(try clear q350);(try clear q351);(try clear q354);(try clear q355);(try clear q356);(try clear q357);(try clear q36);(try clear q360);(try clear q368);(try clear q369);(try clear q37);(try clear q370);(try clear q371);(try clear q372);(try clear q373);(try clear q374);(try clear q375);(try clear q376);(try clear q379);(try clear q38);(try clear q380)
    obtain ⟨kq, HA, HJ58, HB⟩ := hcut
    cases kq with
    | zero => exact absurd HA.out (by simp [laws_FnHousesRun.j4])
    | succ kj58 =>
     have H := HA.out
     clear HA
     simp only [laws_FnHousesRun.j4] at H
     replace H := Option.bind_eq_some_iff.mp H
     obtain ⟨t385, A1130, H⟩ := H
     have A113 := Aside0.mk A1130
     clear A1130
     replace H := Option.bind_eq_some_iff.mp H
     obtain ⟨⟨t386, t387⟩, A1140, H⟩ := H
     dsimp only at H
     have A114 := Aside0.mk A1140
     clear A1140
     replace H := Option.bind_eq_some_iff.mp H
     obtain ⟨⟨t388, t389⟩, A1150, H⟩ := H
     dsimp only at H
     have A115 := Aside0.mk A1150
     clear A1150
     replace H := Option.bind_eq_some_iff.mp H
     obtain ⟨⟨t390, t391⟩, A1160, H⟩ := H
     dsimp only at H
     have A116 := Aside0.mk A1160
     clear A1160
     replace H := Option.bind_eq_some_iff.mp H
     obtain ⟨⟨t392, t393⟩, A1170, H⟩ := H
     dsimp only at H
     have A117 := Aside0.mk A1170
     clear A1170
     as_aux_lemma =>
     replace H := Option.bind_eq_some_iff.mp H
     obtain ⟨⟨t394, t395⟩, A1180, H⟩ := H
     dsimp only at H
     have A118 := Aside0.mk A1180
     clear A1180
     replace H := Option.bind_eq_some_iff.mp H
     obtain ⟨t396, A1190, H⟩ := H
     have A119 := Aside0.mk A1190
     clear A1190
     replace H := Option.bind_eq_some_iff.mp H
     obtain ⟨⟨t397, t398⟩, A1200, H⟩ := H
     dsimp only at H
     have A120 := Aside0.mk A1200
     clear A1200
     replace H := Option.bind_eq_some_iff.mp H
     obtain ⟨⟨t399, t400⟩, A1210, H⟩ := H
     dsimp only at H
     have A121 := Aside0.mk A1210
     clear A1210
     replace H := Option.bind_eq_some_iff.mp H
     obtain ⟨⟨t401, t402⟩, A1220, H⟩ := H
     dsimp only at H
     have A122 := Aside0.mk A1220
     clear A1220
     replace H := Option.bind_eq_some_iff.mp H
     obtain ⟨⟨t403, t404⟩, A1230, H⟩ := H
     dsimp only at H
     have A123 := Aside0.mk A1230
     clear A1230
     as_aux_lemma =>
     replace H := Option.bind_eq_some_iff.mp H
     obtain ⟨⟨t405, t406⟩, A1240, H⟩ := H
     dsimp only at H
     have A124 := Aside0.mk A1240
     clear A1240
     replace H := Option.bind_eq_some_iff.mp H
     obtain ⟨⟨t407, t408, t409⟩, A1250, H⟩ := H
     dsimp only at H
     have A125 := Aside0.mk A1250
     clear A1250
     replace H := Option.bind_eq_some_iff.mp H
     obtain ⟨⟨t410, t411, t412⟩, A1260, H⟩ := H
     dsimp only at H
     have A126 := Aside0.mk A1260
     clear A1260
     by_cases c127 : (t387 != t389) = true
     · exact dead_ (if_pos c127) H hr_
     rw [if_neg c127] at H
     have c127b0 : (t387 != t389) = false := by simpa using c127
     (try (have c127b1 : decide (t387 = t389) = true := by simpa using c127))
     (try (have c127b2 : (t387 == t389) = true := by simpa using c127))
     clear c127
     by_cases c128 : t386 = t388
     rotate_left
     · exact dead_ (if_neg c128) H hr_
     rw [if_pos c128] at H
     have c128b0 : (t386 == t388) = true := beq_iff_eq.mpr c128
     have c128b1 : (t386 != t388) = false := bne_eq_false_iff_eq.mpr c128
     clear c128
     as_aux_lemma =>
     by_cases c129 : (t393 != t395) = true
     · exact dead_ (if_pos c129) H hr_
     rw [if_neg c129] at H
     have c129b0 : (t393 != t395) = false := by simpa using c129
     (try (have c129b1 : decide (t393 = t395) = true := by simpa using c129))
     (try (have c129b2 : (t393 == t395) = true := by simpa using c129))
     clear c129
     by_cases c130 : t392 = t394
     rotate_left
     · exact dead_ (if_neg c130) H hr_
     rw [if_pos c130] at H
     have c130b0 : (t392 == t394) = true := beq_iff_eq.mpr c130
     have c130b1 : (t392 != t394) = false := bne_eq_false_iff_eq.mpr c130
     clear c130
     by_cases c131 : (t398 != t400) = true
     · exact dead_ (if_pos c131) H hr_
     rw [if_neg c131] at H
     have c131b0 : (t398 != t400) = false := by simpa using c131
     (try (have c131b1 : decide (t398 = t400) = true := by simpa using c131))
     (try (have c131b2 : (t398 == t400) = true := by simpa using c131))
     clear c131
     by_cases c132 : t397 = t399
     rotate_left
     · exact dead_ (if_neg c132) H hr_
     rw [if_pos c132] at H
     have c132b0 : (t397 == t399) = true := beq_iff_eq.mpr c132
     have c132b1 : (t397 != t399) = false := bne_eq_false_iff_eq.mpr c132
     clear c132
     as_aux_lemma =>
     by_cases c133 : (t404 != t406) = true
     · exact dead_ (if_pos c133) H hr_
     rw [if_neg c133] at H
     have c133b0 : (t404 != t406) = false := by simpa using c133
     (try (have c133b1 : decide (t404 = t406) = true := by simpa using c133))
     (try (have c133b2 : (t404 == t406) = true := by simpa using c133))
     clear c133
     by_cases c134 : t403 = t405
     rotate_left
     · exact dead_ (if_neg c134) H hr_
     rw [if_pos c134] at H
     have c134b0 : (t403 == t405) = true := beq_iff_eq.mpr c134
     have c134b1 : (t403 != t405) = false := bne_eq_false_iff_eq.mpr c134
     clear c134
     by_cases c135 : (t409 != t412) = true
     · exact dead_ (if_pos c135) H hr_
     rw [if_neg c135] at H
     have c135b0 : (t409 != t412) = false := by simpa using c135
     (try (have c135b1 : decide (t409 = t412) = true := by simpa using c135))
     (try (have c135b2 : (t409 == t412) = true := by simpa using c135))
     clear c135
     by_cases c136 : t407 = t410
     rotate_left
     · exact dead_ (if_neg c136) H hr_
     rw [if_pos c136] at H
     have c136b0 : (t407 == t410) = true := beq_iff_eq.mpr c136
     have c136b1 : (t407 != t410) = false := bne_eq_false_iff_eq.mpr c136
     clear c136
     as_aux_lemma =>
     by_cases c137 : t408 = t411
     rotate_left
     · exact dead_ (if_neg c137) H hr_
     rw [if_pos c137] at H
     have c137b0 : (t408 == t411) = true := beq_iff_eq.mpr c137
     have c137b1 : (t408 != t411) = false := bne_eq_false_iff_eq.mpr c137
     clear c137
     have HC138 := Aside0.mk H
     clear H
     go_upto_if 522 with (first | (go_at_call 20; (with_reducible refine (spec_DrawStreetOfSum.calls _ _ l1 t385 _ ?side1 ?side2 A113.out).mono ?_); (case side1 => repeat (first | exact (Kd.C_below HR1.out HB.out) | (with_reducible refine Kd.C_alloc ?_ _) | (with_reducible refine Kd.C_drewN ?_ _) | (with_reducible refine Kd.C_drew ?_))); (case side2 => exact HC1.out); rintro e w139 ⟨rfl, hb⟩; have n0_ := Aside0.mk (below_step z6_0_ hb); clear HB; have HB := n0_; clear n0_; (try clear hb); (try clear hb2); (try clear hk); (try clear hi)) | (go_at_call 21; (with_reducible refine (impl_StreetOfSum.calls kj58 t385 t386 t387 _ A114.out).mono ?_); rintro e w' ⟨rfl, ⟨nd, rfl⟩⟩; (try first | exact ⟨rfl, _, World.drewN_drewN _ _ _⟩ | exact ⟨rfl, _, Eq.trans (World.drewN_drewN _ _ _) (congrArg (World.drewN _) (Nat.add_assoc _ _ _))⟩)) | (go_at_call 22; (with_reducible refine (spec_StreetOfSum.calls kj58 t385 t388 t389 _ A115.out).mono ?_); rintro e w' ⟨rfl, ⟨nd, rfl⟩⟩; (try first | exact ⟨rfl, _, World.drewN_drewN _ _ _⟩ | exact ⟨rfl, _, Eq.trans (World.drewN_drewN _ _ _) (congrArg (World.drewN _) (Nat.add_assoc _ _ _))⟩)) | (go_at_call 23; (with_reducible refine (spec_DrawLastForSum.calls _ _ l1 t390 t391 _ ?side1 ?side2 A116.out).mono ?_); (case side1 => repeat (first | exact (Kd.C_below HR1.out z6_0_) | (with_reducible refine Kd.C_alloc ?_ _) | (with_reducible refine Kd.C_drewN ?_ _) | (with_reducible refine Kd.C_drew ?_))); (case side2 => exact HC1.out); rintro e w140 ⟨rfl, hb⟩; have n0_ := Aside0.mk (below_step z6_0_ hb); clear HB; have HB := n0_; clear n0_; (try clear hb); (try clear hb2); (try clear hk); (try clear hi)) | (go_at_call 24; (with_reducible refine (impl_LastForSum.calls kj58 t390 t391 t392 t393 _ A117.out).mono ?_); rintro e w' ⟨rfl, ⟨nd, rfl⟩⟩; (try first | exact ⟨rfl, _, World.drewN_drewN _ _ _⟩ | exact ⟨rfl, _, Eq.trans (World.drewN_drewN _ _ _) (congrArg (World.drewN _) (Nat.add_assoc _ _ _))⟩)) | (go_at_call 25; (with_reducible refine (spec_LastForSum.calls kj58 t390 t391 t394 t395 _ A118.out).mono ?_); rintro e w' ⟨rfl, ⟨nd, rfl⟩⟩; (try first | exact ⟨rfl, _, World.drewN_drewN _ _ _⟩ | exact ⟨rfl, _, Eq.trans (World.drewN_drewN _ _ _) (congrArg (World.drewN _) (Nat.add_assoc _ _ _))⟩)) | (go_at_call 26; (with_reducible refine (spec_DrawOppositeOdd.calls _ _ l1 t396 _ ?side1 ?side2 A119.out).mono ?_); (case side1 => repeat (first | exact (Kd.C_below HR1.out z6_0_) | (with_reducible refine Kd.C_alloc ?_ _) | (with_reducible refine Kd.C_drewN ?_ _) | (with_reducible refine Kd.C_drew ?_))); (case side2 => exact HC1.out); rintro e w141 ⟨rfl, hb⟩; have n0_ := Aside0.mk (below_step z6_0_ hb); clear HB; have HB := n0_; clear n0_; (try clear hb); (try clear hb2); (try clear hk); (try clear hi)) | (go_at_call 27; (with_reducible refine (impl_OppositeOdd.calls kj58 t396 t397 t398 _ A120.out).mono ?_); rintro e w' ⟨rfl, ⟨nd, rfl⟩⟩; (try first | exact ⟨rfl, _, World.drewN_drewN _ _ _⟩ | exact ⟨rfl, _, Eq.trans (World.drewN_drewN _ _ _) (congrArg (World.drewN _) (Nat.add_assoc _ _ _))⟩)) | (go_at_call 28; (with_reducible refine (spec_OppositeOdd.calls t396 t399 t400 _ A121.out).mono ?_); rintro e w' ⟨rfl, ⟨nd, rfl⟩⟩; (try first | exact ⟨rfl, _, World.drewN_drewN _ _ _⟩ | exact ⟨rfl, _, Eq.trans (World.drewN_drewN _ _ _) (congrArg (World.drewN _) (Nat.add_assoc _ _ _))⟩)) | (go_at_call 29; (with_reducible refine (spec_DrawOppositeAround.calls _ _ l1 t401 t402 _ ?side1 ?side2 A122.out).mono ?_); (case side1 => repeat (first | exact (Kd.C_below HR1.out z6_0_) | (with_reducible refine Kd.C_alloc ?_ _) | (with_reducible refine Kd.C_drewN ?_ _) | (with_reducible refine Kd.C_drew ?_))); (case side2 => exact HC1.out); rintro e w142 ⟨rfl, hb⟩; have n0_ := Aside0.mk (below_step z6_0_ hb); clear HB; have HB := n0_; clear n0_; (try clear hb); (try clear hb2); (try clear hk); (try clear hi)) | (go_at_call 30; (with_reducible refine (impl_OppositeAround.calls t401 t402 t403 t404 _ A123.out).mono ?_); rintro e w' ⟨rfl, ⟨nd, rfl⟩⟩; (try first | exact ⟨rfl, _, World.drewN_drewN _ _ _⟩ | exact ⟨rfl, _, Eq.trans (World.drewN_drewN _ _ _) (congrArg (World.drewN _) (Nat.add_assoc _ _ _))⟩)) | (go_at_call 31; (with_reducible refine (spec_OppositeAround.calls t401 t402 t405 t406 _ A124.out).mono ?_); rintro e w' ⟨rfl, ⟨nd, rfl⟩⟩; (try first | exact ⟨rfl, _, World.drewN_drewN _ _ _⟩ | exact ⟨rfl, _, Eq.trans (World.drewN_drewN _ _ _) (congrArg (World.drewN _) (Nat.add_assoc _ _ _))⟩)) | (go_at_call 32; (with_reducible refine (impl_NeighbourSums.calls kj58 t401 t402 t407 t408 t409 _ A125.out).mono ?_); rintro e w143 ⟨rfl, hb⟩; have n0_ := Aside0.mk (below_step z6_0_ hb); clear HB; have HB := n0_; clear n0_; (try clear hb); (try clear hb2); (try clear hk); (try clear hi)) | (go_at_call 33; (with_reducible refine (spec_NeighbourSums.calls kj58 t401 t402 t410 t411 t412 _ A126.out).mono ?_); rintro e w144 ⟨rfl, hb⟩; have n0_ := Aside0.mk (below_step z6_0_ hb); clear HB; have HB := n0_; clear n0_; (try clear hb); (try clear hb2); (try clear hk); (try clear hi)))
     repeat (go_quiet (fail); go_upto_if 522 with (first | (go_at_call 20; (with_reducible refine (spec_DrawStreetOfSum.calls _ _ l1 t385 _ ?side1 ?side2 A113.out).mono ?_); (case side1 => repeat (first | exact (Kd.C_below HR1.out HB.out) | (with_reducible refine Kd.C_alloc ?_ _) | (with_reducible refine Kd.C_drewN ?_ _) | (with_reducible refine Kd.C_drew ?_))); (case side2 => exact HC1.out); rintro e w139 ⟨rfl, hb⟩; have n0_ := Aside0.mk (below_step z6_0_ hb); clear HB; have HB := n0_; clear n0_; (try clear hb); (try clear hb2); (try clear hk); (try clear hi)) | (go_at_call 21; (with_reducible refine (impl_StreetOfSum.calls kj58 t385 t386 t387 _ A114.out).mono ?_); rintro e w' ⟨rfl, ⟨nd, rfl⟩⟩; (try first | exact ⟨rfl, _, World.drewN_drewN _ _ _⟩ | exact ⟨rfl, _, Eq.trans (World.drewN_drewN _ _ _) (congrArg (World.drewN _) (Nat.add_assoc _ _ _))⟩)) | (go_at_call 22; (with_reducible refine (spec_StreetOfSum.calls kj58 t385 t388 t389 _ A115.out).mono ?_); rintro e w' ⟨rfl, ⟨nd, rfl⟩⟩; (try first | exact ⟨rfl, _, World.drewN_drewN _ _ _⟩ | exact ⟨rfl, _, Eq.trans (World.drewN_drewN _ _ _) (congrArg (World.drewN _) (Nat.add_assoc _ _ _))⟩)) | (go_at_call 23; (with_reducible refine (spec_DrawLastForSum.calls _ _ l1 t390 t391 _ ?side1 ?side2 A116.out).mono ?_); (case side1 => repeat (first | exact (Kd.C_below HR1.out z6_0_) | (with_reducible refine Kd.C_alloc ?_ _) | (with_reducible refine Kd.C_drewN ?_ _) | (with_reducible refine Kd.C_drew ?_))); (case side2 => exact HC1.out); rintro e w140 ⟨rfl, hb⟩; have n0_ := Aside0.mk (below_step z6_0_ hb); clear HB; have HB := n0_; clear n0_; (try clear hb); (try clear hb2); (try clear hk); (try clear hi)) | (go_at_call 24; (with_reducible refine (impl_LastForSum.calls kj58 t390 t391 t392 t393 _ A117.out).mono ?_); rintro e w' ⟨rfl, ⟨nd, rfl⟩⟩; (try first | exact ⟨rfl, _, World.drewN_drewN _ _ _⟩ | exact ⟨rfl, _, Eq.trans (World.drewN_drewN _ _ _) (congrArg (World.drewN _) (Nat.add_assoc _ _ _))⟩)) | (go_at_call 25; (with_reducible refine (spec_LastForSum.calls kj58 t390 t391 t394 t395 _ A118.out).mono ?_); rintro e w' ⟨rfl, ⟨nd, rfl⟩⟩; (try first | exact ⟨rfl, _, World.drewN_drewN _ _ _⟩ | exact ⟨rfl, _, Eq.trans (World.drewN_drewN _ _ _) (congrArg (World.drewN _) (Nat.add_assoc _ _ _))⟩)) | (go_at_call 26; (with_reducible refine (spec_DrawOppositeOdd.calls _ _ l1 t396 _ ?side1 ?side2 A119.out).mono ?_); (case side1 => repeat (first | exact (Kd.C_below HR1.out z6_0_) | (with_reducible refine Kd.C_alloc ?_ _) | (with_reducible refine Kd.C_drewN ?_ _) | (with_reducible refine Kd.C_drew ?_))); (case side2 => exact HC1.out); rintro e w141 ⟨rfl, hb⟩; have n0_ := Aside0.mk (below_step z6_0_ hb); clear HB; have HB := n0_; clear n0_; (try clear hb); (try clear hb2); (try clear hk); (try clear hi)) | (go_at_call 27; (with_reducible refine (impl_OppositeOdd.calls kj58 t396 t397 t398 _ A120.out).mono ?_); rintro e w' ⟨rfl, ⟨nd, rfl⟩⟩; (try first | exact ⟨rfl, _, World.drewN_drewN _ _ _⟩ | exact ⟨rfl, _, Eq.trans (World.drewN_drewN _ _ _) (congrArg (World.drewN _) (Nat.add_assoc _ _ _))⟩)) | (go_at_call 28; (with_reducible refine (spec_OppositeOdd.calls t396 t399 t400 _ A121.out).mono ?_); rintro e w' ⟨rfl, ⟨nd, rfl⟩⟩; (try first | exact ⟨rfl, _, World.drewN_drewN _ _ _⟩ | exact ⟨rfl, _, Eq.trans (World.drewN_drewN _ _ _) (congrArg (World.drewN _) (Nat.add_assoc _ _ _))⟩)) | (go_at_call 29; (with_reducible refine (spec_DrawOppositeAround.calls _ _ l1 t401 t402 _ ?side1 ?side2 A122.out).mono ?_); (case side1 => repeat (first | exact (Kd.C_below HR1.out z6_0_) | (with_reducible refine Kd.C_alloc ?_ _) | (with_reducible refine Kd.C_drewN ?_ _) | (with_reducible refine Kd.C_drew ?_))); (case side2 => exact HC1.out); rintro e w142 ⟨rfl, hb⟩; have n0_ := Aside0.mk (below_step z6_0_ hb); clear HB; have HB := n0_; clear n0_; (try clear hb); (try clear hb2); (try clear hk); (try clear hi)) | (go_at_call 30; (with_reducible refine (impl_OppositeAround.calls t401 t402 t403 t404 _ A123.out).mono ?_); rintro e w' ⟨rfl, ⟨nd, rfl⟩⟩; (try first | exact ⟨rfl, _, World.drewN_drewN _ _ _⟩ | exact ⟨rfl, _, Eq.trans (World.drewN_drewN _ _ _) (congrArg (World.drewN _) (Nat.add_assoc _ _ _))⟩)) | (go_at_call 31; (with_reducible refine (spec_OppositeAround.calls t401 t402 t405 t406 _ A124.out).mono ?_); rintro e w' ⟨rfl, ⟨nd, rfl⟩⟩; (try first | exact ⟨rfl, _, World.drewN_drewN _ _ _⟩ | exact ⟨rfl, _, Eq.trans (World.drewN_drewN _ _ _) (congrArg (World.drewN _) (Nat.add_assoc _ _ _))⟩)) | (go_at_call 32; (with_reducible refine (impl_NeighbourSums.calls kj58 t401 t402 t407 t408 t409 _ A125.out).mono ?_); rintro e w143 ⟨rfl, hb⟩; have n0_ := Aside0.mk (below_step z6_0_ hb); clear HB; have HB := n0_; clear n0_; (try clear hb); (try clear hb2); (try clear hk); (try clear hi)) | (go_at_call 33; (with_reducible refine (spec_NeighbourSums.calls kj58 t401 t402 t410 t411 t412 _ A126.out).mono ?_); rintro e w144 ⟨rfl, hb⟩; have n0_ := Aside0.mk (below_step z6_0_ hb); clear HB; have HB := n0_; clear n0_; (try clear hb); (try clear hb2); (try clear hk); (try clear hi))))
     (try simp only [Act.put, List.setIfInBounds_toArray, List.set_cons_zero, List.set_cons_succ])
     go_cut [] from 397 to 534 (fun wc => ∃ (kq : Nat), Aside0 (laws_FnHousesRun.j5 kq t390 t391 t392 t393 t396 t397 t398 t401 t402 t403 t404 t407 t408 t409 = some r) ∧ Aside0 (kq ≤ kj58) ∧ Aside0 (Below w.heap.size w wc))
     case first =>
      as_aux_lemma =>
      have H := HC138.out
      clear HC138
      by_cases c145 : t387 = true
      · subst c145
        rw [if_pos rfl] at H
        replace H := Option.bind_eq_some_iff.mp H
        obtain ⟨⟨t413, t414⟩, A1460, H⟩ := H
        dsimp only at H
        have A146 := Aside0.mk A1460
        clear A1460
        by_cases c147 : t414 = true
        · subst c147
          rw [if_pos rfl] at H
          by_cases c148 : t413 = t385
          rotate_left
          · exact dead_ (if_neg c148) H hr_
          rw [if_pos c148] at H
          have c148b0 : (t413 == t385) = true := beq_iff_eq.mpr c148
          have c148b1 : (t413 != t385) = false := bne_eq_false_iff_eq.mpr c148
          clear c148
          (first | rw [c148b0] | (simp only [i64_w, i32_w]; rw [c148b0]) | skip)
          as_aux_lemma =>
           have H' := Aside0.mk H
           clear H
           go_wp2_with (first | (go_at_call 19; (with_reducible refine (impl_SumOfHouses.calls 1 t386 1 t413 true _ A146.out).mono ?_); rintro e w' ⟨rfl, ⟨nd, rfl⟩⟩; (try first | exact ⟨rfl, _, World.drewN_drewN _ _ _⟩ | exact ⟨rfl, _, Eq.trans (World.drewN_drewN _ _ _) (congrArg (World.drewN _) (Nat.add_assoc _ _ _))⟩)))
           repeat (go_quiet (first | (go_at_call 19; (with_reducible refine (impl_SumOfHouses.calls 1 t386 1 t413 true _ A146.out).mono ?_); rintro e w' ⟨rfl, ⟨nd, rfl⟩⟩; (try first | exact ⟨rfl, _, World.drewN_drewN _ _ _⟩ | exact ⟨rfl, _, Eq.trans (World.drewN_drewN _ _ _) (congrArg (World.drewN _) (Nat.add_assoc _ _ _))⟩))); try go_wp2_with (first | (go_at_call 19; (with_reducible refine (impl_SumOfHouses.calls 1 t386 1 t413 true _ A146.out).mono ?_); rintro e w' ⟨rfl, ⟨nd, rfl⟩⟩; (try first | exact ⟨rfl, _, World.drewN_drewN _ _ _⟩ | exact ⟨rfl, _, Eq.trans (World.drewN_drewN _ _ _) (congrArg (World.drewN _) (Nat.add_assoc _ _ _))⟩))))
           go_meet
           case rel => exact ⟨_, H', ⟨by have := HJ15.out; have := HJ58.out; first | omega | exact Nat.le_refl _⟩, ⟨by repeat (first | (with_reducible first | exact HB.out | apply below_alloc | apply pw_below_drewN | apply below_drew1) | exact HB.out)⟩⟩
        replace c147 := Bool.eq_false_iff.mpr c147
        subst c147
        rw [if_neg (show ¬ (false = true) by decide)] at H
        as_aux_lemma =>
         exact Bool.noConfusion ((Option.some.inj H).trans hr_.out)
      replace c145 := Bool.eq_false_iff.mpr c145
      subst c145
      rw [if_neg (show ¬ (false = true) by decide)] at H
      as_aux_lemma =>
       have H' := Aside0.mk H
       clear H
       go_wp2
       repeat (go_quiet (fail); try go_wp2)
       go_meet
       case rel => exact ⟨_, H', ⟨by have := HJ15.out; have := HJ58.out; first | omega | exact Nat.le_refl _⟩, ⟨by repeat (first | (with_reducible first | exact HB.out | apply below_alloc | apply pw_below_drewN | apply below_drew1) | exact HB.out)⟩⟩
     case rest =>
      as_aux_lemma =>
      clear HC138
      (try clear c1);(try clear c2);(try clear p2);(try clear c3);(try clear p3);(try clear q3);(try clear hx3);(try clear qi3);(try clear c4);(try clear c5);(try clear c6);(try clear p6);(try clear c7);(try clear c8);(try clear c9);(try clear c10);(try clear c11);(try clear c12);(try clear c13);(try clear c14);(try clear c26);(try clear c26b0);(try clear c26b1);(try clear c26b2);(try clear c28);(try clear c29);(try clear c29b0);(try clear c29b1);(try clear c29b2);(try clear c30);(try clear c30b0);(try clear c30b1);(try clear c31);(try clear c31b0);(try clear c31b1);(try clear c31b2);(try clear c32);(try clear c32b0);(try clear c32b1);(try clear c33);(try clear c33b0);(try clear c33b1);(try clear p33);(try clear q33);(try clear hx33);(try clear c34);(try clear c34b0);(try clear c34b1);(try clear c34b2);(try clear p34);(try clear q34);(try clear hx34);(try clear qi34);(try clear p35);(try clear q35);(try clear hx35);(try clear qi35);(try clear c36);(try clear p36);(try clear q36);(try clear hx36);(try clear qi36);(try clear c37);(try clear c37b0);(try clear c37b1);(try clear c37b2);(try clear p37);(try clear q37);(try clear hx37);(try clear qi37);(try clear c38);(try clear c38b0);(try clear c38b1);(try clear p38);(try clear q38);(try clear hx38);(try clear qi38);(try clear c39);(try clear c39b0);(try clear c39b1);(try clear c40);(try clear c40b0);(try clear c40b1);(try clear c40b2);(try clear c41);(try clear c41b0);(try clear c41b1);(try clear c41b2);(try clear c42);(try clear c42b0);(try clear c42b1);(try clear c42b2);(try clear c43);(try clear c58);(try clear c60);(try clear c61);(try clear c61b0);(try clear c61b1);(try clear c62);(try clear c62b0);(try clear c63);(try clear c63b0);(try clear c64);(try clear c64b0);(try clear p64);(try clear c66);(try clear c66b0);(try clear c67);(try clear c67b0);(try clear c68);(try clear c68b0);(try clear c69);(try clear c69b0);(try clear c69b1);(try clear c70);(try clear c70b0);(try clear c70b1);(try clear c71);(try clear c71b0);(try clear c71b1);(try clear c72);(try clear c72b0);(try clear c73);(try clear c73b0);(try clear c75);(try clear c75b0);(try clear c76);(try clear c76b0);(try clear c77);(try clear c77b0);(try clear c77b1);(try clear c78);(try clear c78b0);(try clear c79);(try clear c79b0);(try clear c81);(try clear c82);(try clear c82b0);(try clear c82b1);(try clear c83);(try clear c83b0);(try clear c85);(try clear c86);(try clear c86b0);(try clear c86b1);(try clear c88);(try clear c88b0);(try clear c89);(try clear c89b0);(try clear c90);(try clear c90b0);(try clear c91);(try clear c91b0);(try clear c91b1);(try clear c92);(try clear c92b0);(try clear c92b1);(try clear c93);(try clear c93b0);(try clear c93b1);(try clear c94);(try clear c94b0);(try clear c95);(try clear c95b0);(try clear c95b1);(try clear c96);(try clear c96b0);(try clear c98);(try clear c98b0);(try clear c99);(try clear c99b0);(try clear c100);(try clear c100b0);(try clear c100b1);(try clear c101);(try clear c101b0);(try clear c103);(try clear c104)
      (try clear c104b0);(try clear c104b1);(try clear c106);(try clear c107);(try clear c107b0);(try clear c107b1);(try clear c108);(try clear c108b0);(try clear c108b1);(try clear c110);(try clear c110b0);(try clear c110b1);(try clear c110b2);(try clear c111);(try clear c112);(try clear c112b0);(try clear c112b1);(try clear c127);(try clear c127b0);(try clear c127b1);(try clear c127b2);(try clear c128);(try clear c128b0);(try clear c128b1);(try clear c129);(try clear c129b0);(try clear c129b1);(try clear c129b2);(try clear c130);(try clear c130b0);(try clear c130b1);(try clear c131);(try clear c131b0);(try clear c131b1);(try clear c131b2);(try clear c132);(try clear c132b0);(try clear c132b1);(try clear c133);(try clear c133b0);(try clear c133b1);(try clear c133b2);(try clear c134);(try clear c134b0);(try clear c134b1);(try clear c135);(try clear c135b0);(try clear c135b1);(try clear c135b2);(try clear c136);(try clear c136b0);(try clear c136b1);(try clear c137);(try clear c137b0);(try clear c137b1);(try clear c145);(try clear c147);(try clear c148);(try clear c148b0);(try clear c148b1);(try clear hx333_0);(try clear hx343_0);(try clear hx344_0);(try clear hx345_0);(try clear hx346_0);(try clear hx347_0);(try clear hx348_0);(try clear hx349_0);(try clear hx350_0);(try clear hx351_0);(try clear hx354_0);(try clear hx355_0);(try clear hx356_0);(try clear hx357_0);(try clear hx360_0);(try clear hx368_0);(try clear hx369_0);(try clear hx370_0);(try clear hx371_0);(try clear hx372_0);(try clear hx373_0);(try clear hx374_0);(try clear hx375_0);(try clear hx376_0);(try clear hx379_0);(try clear hx380_0);(try clear p2);(try clear p3);(try clear p33);(try clear p333);(try clear p34);(try clear p343);(try clear p344);(try clear p345);(try clear p346);(try clear p347);(try clear p348);(try clear p349);(try clear p35);(try clear p350);(try clear p351);(try clear p354);(try clear p355);(try clear p356);(try clear p357);(try clear p36);(try clear p360);(try clear p368);(try clear p369);(try clear p37);(try clear p370);(try clear p371);(try clear p372);(try clear p373);(try clear p374);(try clear p375);(try clear p376);(try clear p379);(try clear p38);(try clear p380);(try clear p6);(try clear p64);(try clear q3);(try clear q33);(try clear q333);(try clear q34);(try clear q343);(try clear q344);(try clear q345);(try clear q346);(try clear q347);(try clear q348);(try clear q349);(try clear q35);(try clear q350);(try clear q351);(try clear q354);(try clear q355);(try clear q356);(try clear q357);(try clear q36);(try clear q360);(try clear q368);(try clear q369);(try clear q37);(try clear q370);(try clear q371);(try clear q372);(try clear q373);(try clear q374);(try clear q375);(try clear q376);(try clear q379);(try clear q38);(try clear q380)
      obtain ⟨kq, HA, HJ137, HB⟩ := hcut
      cases kq with
      | zero => exact absurd HA.out (by simp [laws_FnHousesRun.j5])
      | succ kj137 =>
       have H := HA.out
       clear HA
       simp only [laws_FnHousesRun.j5] at H
       have HC149 := Aside0.mk H
       clear H
       go_upto_if 535 with (fail)
       repeat (go_quiet (fail); go_upto_if 535 with (fail))
       go_cut [] from 535 to 560 (fun wc => ∃ (kq : Nat), Aside0 (laws_FnHousesRun.j6 kq t396 t397 t398 t401 t402 t403 t404 t407 t408 t409 = some r) ∧ Aside0 (kq ≤ kj137) ∧ Aside0 (Below w.heap.size w wc))
       case first =>
        as_aux_lemma =>
        have H := HC149.out
        clear HC149
        by_cases c150 : t393 = true
        · subst c150
          rw [if_pos rfl] at H
          replace H := Option.bind_eq_some_iff.mp H
          obtain ⟨⟨t415, t416⟩, A1510, H⟩ := H
          dsimp only at H
          have A151 := Aside0.mk A1510
          clear A1510
          by_cases c152 : t416 = true
          · subst c152
            rw [if_pos rfl] at H
            by_cases c153 : t415 < t391
            · exact dead_ (if_pos c153) H hr_
            rw [if_neg c153] at H
            have c153b0 : decide (t415 < t391) = false := decide_eq_false c153
            clear c153
            (first | rw [c153b0] | (simp only [i64_w, i32_w]; rw [c153b0]) | skip)
            by_cases c154 : t392 > t390
            · rw [if_pos c154] at H
              have c154b0 : decide (t390 < t392) = true := decide_eq_true c154
              clear c154
              by_cases c155 : (wrap64 (t415 - t392)) ≥ t391
              · exact dead_ (if_pos c155) H hr_
              rw [if_neg c155] at H
              have c155b0 : decide (t391 ≤ (wrap64 (t415 - t392))) = false := decide_eq_false c155
              clear c155
              as_aux_lemma =>
               have H' := Aside0.mk H
               clear H
               go_wp2_with (first | (go_at_call 19; (with_reducible refine (impl_SumOfHouses.calls t390 t392 1 t415 true _ A151.out).mono ?_); rintro e w' ⟨rfl, ⟨nd, rfl⟩⟩; (try first | exact ⟨rfl, _, World.drewN_drewN _ _ _⟩ | exact ⟨rfl, _, Eq.trans (World.drewN_drewN _ _ _) (congrArg (World.drewN _) (Nat.add_assoc _ _ _))⟩)))
               repeat (go_quiet (first | (go_at_call 19; (with_reducible refine (impl_SumOfHouses.calls t390 t392 1 t415 true _ A151.out).mono ?_); rintro e w' ⟨rfl, ⟨nd, rfl⟩⟩; (try first | exact ⟨rfl, _, World.drewN_drewN _ _ _⟩ | exact ⟨rfl, _, Eq.trans (World.drewN_drewN _ _ _) (congrArg (World.drewN _) (Nat.add_assoc _ _ _))⟩))); try go_wp2_with (first | (go_at_call 19; (with_reducible refine (impl_SumOfHouses.calls t390 t392 1 t415 true _ A151.out).mono ?_); rintro e w' ⟨rfl, ⟨nd, rfl⟩⟩; (try first | exact ⟨rfl, _, World.drewN_drewN _ _ _⟩ | exact ⟨rfl, _, Eq.trans (World.drewN_drewN _ _ _) (congrArg (World.drewN _) (Nat.add_assoc _ _ _))⟩))))
               go_meet
               case rel => exact ⟨_, H', ⟨by have := HJ15.out; have := HJ58.out; have := HJ137.out; first | omega | exact Nat.le_refl _⟩, ⟨by repeat (first | (with_reducible first | exact HB.out | apply below_alloc | apply pw_below_drewN | apply below_drew1) | exact HB.out)⟩⟩
            rw [if_neg c154] at H
            have c154b0 : decide (t390 < t392) = false := decide_eq_false c154
            clear c154
            as_aux_lemma =>
             have H' := Aside0.mk H
             clear H
             go_wp2_with (first | (go_at_call 19; (with_reducible refine (impl_SumOfHouses.calls t390 t392 1 t415 true _ A151.out).mono ?_); rintro e w' ⟨rfl, ⟨nd, rfl⟩⟩; (try first | exact ⟨rfl, _, World.drewN_drewN _ _ _⟩ | exact ⟨rfl, _, Eq.trans (World.drewN_drewN _ _ _) (congrArg (World.drewN _) (Nat.add_assoc _ _ _))⟩)))
             repeat (go_quiet (first | (go_at_call 19; (with_reducible refine (impl_SumOfHouses.calls t390 t392 1 t415 true _ A151.out).mono ?_); rintro e w' ⟨rfl, ⟨nd, rfl⟩⟩; (try first | exact ⟨rfl, _, World.drewN_drewN _ _ _⟩ | exact ⟨rfl, _, Eq.trans (World.drewN_drewN _ _ _) (congrArg (World.drewN _) (Nat.add_assoc _ _ _))⟩))); try go_wp2_with (first | (go_at_call 19; (with_reducible refine (impl_SumOfHouses.calls t390 t392 1 t415 true _ A151.out).mono ?_); rintro e w' ⟨rfl, ⟨nd, rfl⟩⟩; (try first | exact ⟨rfl, _, World.drewN_drewN _ _ _⟩ | exact ⟨rfl, _, Eq.trans (World.drewN_drewN _ _ _) (congrArg (World.drewN _) (Nat.add_assoc _ _ _))⟩))))
             go_meet
             case rel => exact ⟨_, H', ⟨by have := HJ15.out; have := HJ58.out; have := HJ137.out; first | omega | exact Nat.le_refl _⟩, ⟨by repeat (first | (with_reducible first | exact HB.out | apply below_alloc | apply pw_below_drewN | apply below_drew1) | exact HB.out)⟩⟩
          replace c152 := Bool.eq_false_iff.mpr c152
          subst c152
          rw [if_neg (show ¬ (false = true) by decide)] at H
          as_aux_lemma =>
           exact Bool.noConfusion ((Option.some.inj H).trans hr_.out)
        replace c150 := Bool.eq_false_iff.mpr c150
        subst c150
        rw [if_neg (show ¬ (false = true) by decide)] at H
        as_aux_lemma =>
         have H' := Aside0.mk H
         clear H
         go_wp2
         repeat (go_quiet (fail); try go_wp2)
         go_meet
         case rel => exact ⟨_, H', ⟨by have := HJ15.out; have := HJ58.out; have := HJ137.out; first | omega | exact Nat.le_refl _⟩, ⟨by repeat (first | (with_reducible first | exact HB.out | apply below_alloc | apply pw_below_drewN | apply below_drew1) | exact HB.out)⟩⟩
       case rest =>
        as_aux_lemma =>
        clear HC149
        (try clear c1);(try clear c2);(try clear p2);(try clear c3);(try clear p3);(try clear q3);(try clear hx3);(try clear qi3);(try clear c4);(try clear c5);(try clear c6);(try clear p6);(try clear c7);(try clear c8);(try clear c9);(try clear c10);(try clear c11);(try clear c12);(try clear c13);(try clear c14);(try clear c15);(try clear c26);(try clear c26b0);(try clear c26b1);(try clear c26b2);(try clear c28);(try clear c29);(try clear c29b0);(try clear c29b1);(try clear c29b2);(try clear c30);(try clear c30b0);(try clear c30b1);(try clear c31);(try clear c31b0);(try clear c31b1);(try clear c31b2);(try clear c32);(try clear c32b0);(try clear c32b1);(try clear c33);(try clear c33b0);(try clear c33b1);(try clear p33);(try clear q33);(try clear hx33);(try clear c34);(try clear c34b0);(try clear c34b1);(try clear c34b2);(try clear p34);(try clear q34);(try clear hx34);(try clear qi34);(try clear p35);(try clear q35);(try clear hx35);(try clear qi35);(try clear c36);(try clear p36);(try clear q36);(try clear hx36);(try clear qi36);(try clear c37);(try clear c37b0);(try clear c37b1);(try clear c37b2);(try clear p37);(try clear q37);(try clear hx37);(try clear qi37);(try clear c38);(try clear c38b0);(try clear c38b1);(try clear p38);(try clear q38);(try clear hx38);(try clear qi38);(try clear c39);(try clear c39b0);(try clear c39b1);(try clear c40);(try clear c40b0);(try clear c40b1);(try clear c40b2);(try clear c41);(try clear c41b0);(try clear c41b1);(try clear c41b2);(try clear c42);(try clear c42b0);(try clear c42b1);(try clear c42b2);(try clear c43);(try clear c58);(try clear c60);(try clear c61);(try clear c61b0);(try clear c61b1);(try clear c62);(try clear c62b0);(try clear c63);(try clear c63b0);(try clear c64);(try clear c64b0);(try clear p64);(try clear c66);(try clear c66b0);(try clear c67);(try clear c67b0);(try clear c68);(try clear c68b0);(try clear c69);(try clear c69b0);(try clear c69b1);(try clear c70);(try clear c70b0);(try clear c70b1);(try clear c71);(try clear c71b0);(try clear c71b1);(try clear c72);(try clear c72b0);(try clear c73);(try clear c73b0);(try clear c75);(try clear c75b0);(try clear c76);(try clear c76b0);(try clear c77);(try clear c77b0);(try clear c77b1);(try clear c78);(try clear c78b0);(try clear c79);(try clear c79b0);(try clear c81);(try clear c82);(try clear c82b0);(try clear c82b1);(try clear c83);(try clear c83b0);(try clear c85);(try clear c86);(try clear c86b0);(try clear c86b1);(try clear c88);(try clear c88b0);(try clear c89);(try clear c89b0);(try clear c90);(try clear c90b0);(try clear c91);(try clear c91b0);(try clear c91b1);(try clear c92);(try clear c92b0);(try clear c92b1);(try clear c93);(try clear c93b0);(try clear c93b1);(try clear c94);(try clear c94b0);(try clear c95);(try clear c95b0);(try clear c95b1);(try clear c96);(try clear c96b0);(try clear c98);(try clear c98b0);(try clear c99);(try clear c99b0);(try clear c100);(try clear c100b0);(try clear c100b1);(try clear c101);(try clear c101b0)
        (try clear c103);(try clear c104);(try clear c104b0);(try clear c104b1);(try clear c106);(try clear c107);(try clear c107b0);(try clear c107b1);(try clear c108);(try clear c108b0);(try clear c108b1);(try clear c110);(try clear c110b0);(try clear c110b1);(try clear c110b2);(try clear c111);(try clear c112);(try clear c112b0);(try clear c112b1);(try clear c127);(try clear c127b0);(try clear c127b1);(try clear c127b2);(try clear c128);(try clear c128b0);(try clear c128b1);(try clear c129);(try clear c129b0);(try clear c129b1);(try clear c129b2);(try clear c130);(try clear c130b0);(try clear c130b1);(try clear c131);(try clear c131b0);(try clear c131b1);(try clear c131b2);(try clear c132);(try clear c132b0);(try clear c132b1);(try clear c133);(try clear c133b0);(try clear c133b1);(try clear c133b2);(try clear c134);(try clear c134b0);(try clear c134b1);(try clear c135);(try clear c135b0);(try clear c135b1);(try clear c135b2);(try clear c136);(try clear c136b0);(try clear c136b1);(try clear c137);(try clear c137b0);(try clear c137b1);(try clear c145);(try clear c147);(try clear c148);(try clear c148b0);(try clear c148b1);(try clear c150);(try clear c152);(try clear c153);(try clear c153b0);(try clear c154);(try clear c154b0);(try clear c155);(try clear c155b0);(try clear hx333_0);(try clear hx343_0);(try clear hx344_0);(try clear hx345_0);(try clear hx346_0);(try clear hx347_0);(try clear hx348_0);(try clear hx349_0);(try clear hx350_0);(try clear hx351_0);(try clear hx354_0);(try clear hx355_0);(try clear hx356_0);(try clear hx357_0);(try clear hx360_0);(try clear hx368_0);(try clear hx369_0);(try clear hx370_0);(try clear hx371_0);(try clear hx372_0);(try clear hx373_0);(try clear hx374_0);(try clear hx375_0);(try clear hx376_0);(try clear hx379_0);(try clear hx380_0);(try clear p2);(try clear p3);(try clear p33);(try clear p333);(try clear p34);(try clear p343);(try clear p344);(try clear p345);(try clear p346);(try clear p347);(try clear p348);(try clear p349);(try clear p35);(try clear p350);(try clear p351);(try clear p354);(try clear p355);(try clear p356);(try clear p357);(try clear p36);(try clear p360);(try clear p368);(try clear p369);(try clear p37);(try clear p370);(try clear p371);(try clear p372);(try clear p373);(try clear p374);(try clear p375);(try clear p376);(try clear p379);(try clear p38);(try clear p380);(try clear p6);(try clear p64);(try clear q3);(try clear q33);(try clear q333);(try clear q34);(try clear q343);(try clear q344);(try clear q345);(try clear q346);(try clear q347);(try clear q348);(try clear q349);(try clear q35);(try clear q350);(try clear q351);(try clear q354);(try clear q355);(try clear q356);(try clear q357);(try clear q36);(try clear q360);(try clear q368);(try clear q369);(try clear q37);(try clear q370);(try clear q371);(try clear q372);(try clear q373);(try clear q374);(try clear q375);(try clear q376);(try clear q379);(try clear q38);(try clear q380)
        obtain ⟨kq, HA, HJ148, HB⟩ := hcut
        cases kq with
        | zero => exact absurd HA.out (by simp [laws_FnHousesRun.j6])
        | succ kj148 =>
         have H := HA.out
         clear HA
         simp only [laws_FnHousesRun.j6] at H
         by_cases c156 : t398 = true
         · subst c156
           rw [if_pos rfl] at H
           replace H := Option.bind_eq_some_iff.mp H
           obtain ⟨⟨t417, t418⟩, A1570, H⟩ := H
           dsimp only at H
           have A157 := Aside0.mk A1570
           clear A1570
           by_cases c158 : t418 = true
           · subst c158
             rw [if_pos rfl] at H
             by_cases c159 : t417 = t396
             rotate_left
             · exact dead_ (if_neg c159) H hr_
             rw [if_pos c159] at H
             have c159b0 : (t417 == t396) = true := beq_iff_eq.mpr c159
             have c159b1 : (t417 != t396) = false := bne_eq_false_iff_eq.mpr c159
             clear c159
             by_cases c160 : (wrap64 (Int.tdiv (wrap64 (t396 + 1)) 2)) = (wrap64 (Int.tdiv (wrap64 (t397 + 1)) 2))
             rotate_left
             · exact dead_ (if_neg c160) H hr_
             rw [if_pos c160] at H
             have c160b0 : ((wrap64 (Int.tdiv (wrap64 (t396 + 1)) 2)) == (wrap64 (Int.tdiv (wrap64 (t397 + 1)) 2))) = true := beq_iff_eq.mpr c160
             have c160b1 : ((wrap64 (Int.tdiv (wrap64 (t396 + 1)) 2)) != (wrap64 (Int.tdiv (wrap64 (t397 + 1)) 2))) = false := bne_eq_false_iff_eq.mpr c160
             clear c160
             by_cases c161 : t396 = t397
             · exact dead_ (if_pos c161) H hr_
             rw [if_neg c161] at H
             have c161b0 : (t396 == t397) = false := beq_eq_false_iff_ne.mpr c161
             have c161b1 : (t396 != t397) = true := bne_iff_ne.mpr c161
             by_cases c162 : t404 = true
             · subst c162
               rw [if_pos rfl] at H
               replace H := Option.bind_eq_some_iff.mp H
               obtain ⟨⟨t419, t420⟩, A1630, H⟩ := H
               dsimp only at H
               have A163 := Aside0.mk A1630
               clear A1630
               by_cases c164 : t420 = true
               · subst c164
                 rw [if_pos rfl] at H
                 by_cases c165 : t419 = t402
                 rotate_left
                 · exact dead_ (if_neg c165) H hr_
                 rw [if_pos c165] at H
                 have c165b0 : (t419 == t402) = true := beq_iff_eq.mpr c165
                 have c165b1 : (t419 != t402) = false := bne_eq_false_iff_eq.mpr c165
                 clear c165
                 by_cases c166 : t403 = t402
                 · exact dead_ (if_pos c166) H hr_
                 rw [if_neg c166] at H
                 have c166b0 : (t403 == t402) = false := beq_eq_false_iff_ne.mpr c166
                 have c166b1 : (t403 != t402) = true := bne_iff_ne.mpr c166
                 by_cases c167 : (wrap64 (t403 + t402)) = (wrap64 (t401 + 1))
                 rotate_left
                 · exact dead_ (if_neg c167) H hr_
                 rw [if_pos c167] at H
                 have c167b0 : ((wrap64 (t403 + t402)) == (wrap64 (t401 + 1))) = true := beq_iff_eq.mpr c167
                 have c167b1 : ((wrap64 (t403 + t402)) != (wrap64 (t401 + 1))) = false := bne_eq_false_iff_eq.mpr c167
                 clear c167
                 by_cases c168 : t409 = true
                 · subst c168
                   rw [if_pos rfl] at H
                   by_cases c169 : t408 < 1
                   · exact dead_ (if_pos c169) H hr_
                   rw [if_neg c169] at H
                   have c169b0 : decide (t408 < 1) = false := decide_eq_false c169
                   clear c169
                   by_cases c170 : t408 > 2
                   · exact dead_ (if_pos c170) H hr_
                   rw [if_neg c170] at H
                   have c170b0 : decide (2 < t408) = false := decide_eq_false c170
                   clear c170
                   by_cases c171 : t408 = 2
                   · rw [if_pos c171] at H
                     have c171b0 : (t408 == 2) = true := beq_iff_eq.mpr c171
                     have c171b1 : (t408 != 2) = false := bne_eq_false_iff_eq.mpr c171
                     clear c171
                     by_cases c172 : t407 = (wrap64 (2 * t402))
                     rotate_left
                     · exact dead_ (if_neg c172) H hr_
                     rw [if_pos c172] at H
                     have c172b0 : (t407 == (wrap64 (2 * t402))) = true := beq_iff_eq.mpr c172
                     have c172b1 : (t407 != (wrap64 (2 * t402))) = false := bne_eq_false_iff_eq.mpr c172
                     clear c172
                     by_cases c173 : t408 = 1
                     · rw [if_pos c173] at H
                       have c173b0 : (t408 == 1) = true := beq_iff_eq.mpr c173
                       have c173b1 : (t408 != 1) = false := bne_eq_false_iff_eq.mpr c173
                       clear c173
                       by_cases c174 : t402 = 1
                       · rw [if_pos c174] at H
                         have c174b0 : (t402 == 1) = true := beq_iff_eq.mpr c174
                         have c174b1 : (t402 != 1) = false := bne_eq_false_iff_eq.mpr c174
                         clear c174
                         as_aux_lemma =>
                          obtain rfl := Option.some.inj H
                          go_wp2_with (first | (go_at_call 27; (with_reducible refine (impl_OppositeOdd.calls kj148 t397 t417 true _ A157.out).mono ?_); rintro e w' ⟨rfl, ⟨nd, rfl⟩⟩; (try first | exact ⟨rfl, _, World.drewN_drewN _ _ _⟩ | exact ⟨rfl, _, Eq.trans (World.drewN_drewN _ _ _) (congrArg (World.drewN _) (Nat.add_assoc _ _ _))⟩)) | (go_at_call 30; (with_reducible refine (impl_OppositeAround.calls t401 t403 t419 true _ A163.out).mono ?_); rintro e w' ⟨rfl, ⟨nd, rfl⟩⟩; (try first | exact ⟨rfl, _, World.drewN_drewN _ _ _⟩ | exact ⟨rfl, _, Eq.trans (World.drewN_drewN _ _ _) (congrArg (World.drewN _) (Nat.add_assoc _ _ _))⟩)))
                          repeat (go_quiet (fail); try go_wp2_with (first | (go_at_call 27; (with_reducible refine (impl_OppositeOdd.calls kj148 t397 t417 true _ A157.out).mono ?_); rintro e w' ⟨rfl, ⟨nd, rfl⟩⟩; (try first | exact ⟨rfl, _, World.drewN_drewN _ _ _⟩ | exact ⟨rfl, _, Eq.trans (World.drewN_drewN _ _ _) (congrArg (World.drewN _) (Nat.add_assoc _ _ _))⟩)) | (go_at_call 30; (with_reducible refine (impl_OppositeAround.calls t401 t403 t419 true _ A163.out).mono ?_); rintro e w' ⟨rfl, ⟨nd, rfl⟩⟩; (try first | exact ⟨rfl, _, World.drewN_drewN _ _ _⟩ | exact ⟨rfl, _, Eq.trans (World.drewN_drewN _ _ _) (congrArg (World.drewN _) (Nat.add_assoc _ _ _))⟩))))
                          go_ret
                          exact ⟨by first | rfl | (simp [errW_none, errW_some] <;> rfl) | (simp [*, errW_none, errW_some] <;> rfl), by repeat (first | (with_reducible first | exact HB.out | apply below_alloc | apply pw_below_drewN | apply below_drew1) | exact HB.out)⟩
                       rw [if_neg c174] at H
                       have c174b0 : (t402 == 1) = false := beq_eq_false_iff_ne.mpr c174
                       have c174b1 : (t402 != 1) = true := bne_iff_ne.mpr c174
                       by_cases c175 : t402 = t401
                       rotate_left
                       · exact dead_ (if_neg c175) H hr_
                       rw [if_pos c175] at H
                       have c175b0 : (t402 == t401) = true := beq_iff_eq.mpr c175
                       have c175b1 : (t402 != t401) = false := bne_eq_false_iff_eq.mpr c175
                       clear c175
                       as_aux_lemma =>
                        obtain rfl := Option.some.inj H
                        go_wp2_with (first | (go_at_call 27; (with_reducible refine (impl_OppositeOdd.calls kj148 t397 t417 true _ A157.out).mono ?_); rintro e w' ⟨rfl, ⟨nd, rfl⟩⟩; (try first | exact ⟨rfl, _, World.drewN_drewN _ _ _⟩ | exact ⟨rfl, _, Eq.trans (World.drewN_drewN _ _ _) (congrArg (World.drewN _) (Nat.add_assoc _ _ _))⟩)) | (go_at_call 30; (with_reducible refine (impl_OppositeAround.calls t401 t403 t419 true _ A163.out).mono ?_); rintro e w' ⟨rfl, ⟨nd, rfl⟩⟩; (try first | exact ⟨rfl, _, World.drewN_drewN _ _ _⟩ | exact ⟨rfl, _, Eq.trans (World.drewN_drewN _ _ _) (congrArg (World.drewN _) (Nat.add_assoc _ _ _))⟩)))
                        repeat (go_quiet (fail); try go_wp2_with (first | (go_at_call 27; (with_reducible refine (impl_OppositeOdd.calls kj148 t397 t417 true _ A157.out).mono ?_); rintro e w' ⟨rfl, ⟨nd, rfl⟩⟩; (try first | exact ⟨rfl, _, World.drewN_drewN _ _ _⟩ | exact ⟨rfl, _, Eq.trans (World.drewN_drewN _ _ _) (congrArg (World.drewN _) (Nat.add_assoc _ _ _))⟩)) | (go_at_call 30; (with_reducible refine (impl_OppositeAround.calls t401 t403 t419 true _ A163.out).mono ?_); rintro e w' ⟨rfl, ⟨nd, rfl⟩⟩; (try first | exact ⟨rfl, _, World.drewN_drewN _ _ _⟩ | exact ⟨rfl, _, Eq.trans (World.drewN_drewN _ _ _) (congrArg (World.drewN _) (Nat.add_assoc _ _ _))⟩))))
                        go_ret
                        exact ⟨by first | rfl | (simp [errW_none, errW_some] <;> rfl) | (simp [*, errW_none, errW_some] <;> rfl), by repeat (first | (with_reducible first | exact HB.out | apply below_alloc | apply pw_below_drewN | apply below_drew1) | exact HB.out)⟩
                     rw [if_neg c173] at H
                     have c173b0 : (t408 == 1) = false := beq_eq_false_iff_ne.mpr c173
                     have c173b1 : (t408 != 1) = true := bne_iff_ne.mpr c173
                     as_aux_lemma =>
                      obtain rfl := Option.some.inj H
                      go_wp2_with (first | (go_at_call 27; (with_reducible refine (impl_OppositeOdd.calls kj148 t397 t417 true _ A157.out).mono ?_); rintro e w' ⟨rfl, ⟨nd, rfl⟩⟩; (try first | exact ⟨rfl, _, World.drewN_drewN _ _ _⟩ | exact ⟨rfl, _, Eq.trans (World.drewN_drewN _ _ _) (congrArg (World.drewN _) (Nat.add_assoc _ _ _))⟩)) | (go_at_call 30; (with_reducible refine (impl_OppositeAround.calls t401 t403 t419 true _ A163.out).mono ?_); rintro e w' ⟨rfl, ⟨nd, rfl⟩⟩; (try first | exact ⟨rfl, _, World.drewN_drewN _ _ _⟩ | exact ⟨rfl, _, Eq.trans (World.drewN_drewN _ _ _) (congrArg (World.drewN _) (Nat.add_assoc _ _ _))⟩)))
                      repeat (go_quiet (fail); try go_wp2_with (first | (go_at_call 27; (with_reducible refine (impl_OppositeOdd.calls kj148 t397 t417 true _ A157.out).mono ?_); rintro e w' ⟨rfl, ⟨nd, rfl⟩⟩; (try first | exact ⟨rfl, _, World.drewN_drewN _ _ _⟩ | exact ⟨rfl, _, Eq.trans (World.drewN_drewN _ _ _) (congrArg (World.drewN _) (Nat.add_assoc _ _ _))⟩)) | (go_at_call 30; (with_reducible refine (impl_OppositeAround.calls t401 t403 t419 true _ A163.out).mono ?_); rintro e w' ⟨rfl, ⟨nd, rfl⟩⟩; (try first | exact ⟨rfl, _, World.drewN_drewN _ _ _⟩ | exact ⟨rfl, _, Eq.trans (World.drewN_drewN _ _ _) (congrArg (World.drewN _) (Nat.add_assoc _ _ _))⟩))))
                      go_ret
                      exact ⟨by first | rfl | (simp [errW_none, errW_some] <;> rfl) | (simp [*, errW_none, errW_some] <;> rfl), by repeat (first | (with_reducible first | exact HB.out | apply below_alloc | apply pw_below_drewN | apply below_drew1) | exact HB.out)⟩
                   rw [if_neg c171] at H
                   have c171b0 : (t408 == 2) = false := beq_eq_false_iff_ne.mpr c171
                   have c171b1 : (t408 != 2) = true := bne_iff_ne.mpr c171
                   as_aux_lemma =>
                   by_cases c176 : t408 = 1
                   · rw [if_pos c176] at H
                     have c176b0 : (t408 == 1) = true := beq_iff_eq.mpr c176
                     have c176b1 : (t408 != 1) = false := bne_eq_false_iff_eq.mpr c176
                     clear c176
                     by_cases c177 : t402 = 1
                     · rw [if_pos c177] at H
                       have c177b0 : (t402 == 1) = true := beq_iff_eq.mpr c177
                       have c177b1 : (t402 != 1) = false := bne_eq_false_iff_eq.mpr c177
                       clear c177
                       as_aux_lemma =>
                        obtain rfl := Option.some.inj H
                        go_wp2_with (first | (go_at_call 27; (with_reducible refine (impl_OppositeOdd.calls kj148 t397 t417 true _ A157.out).mono ?_); rintro e w' ⟨rfl, ⟨nd, rfl⟩⟩; (try first | exact ⟨rfl, _, World.drewN_drewN _ _ _⟩ | exact ⟨rfl, _, Eq.trans (World.drewN_drewN _ _ _) (congrArg (World.drewN _) (Nat.add_assoc _ _ _))⟩)) | (go_at_call 30; (with_reducible refine (impl_OppositeAround.calls t401 t403 t419 true _ A163.out).mono ?_); rintro e w' ⟨rfl, ⟨nd, rfl⟩⟩; (try first | exact ⟨rfl, _, World.drewN_drewN _ _ _⟩ | exact ⟨rfl, _, Eq.trans (World.drewN_drewN _ _ _) (congrArg (World.drewN _) (Nat.add_assoc _ _ _))⟩)))
                        repeat (go_quiet (fail); try go_wp2_with (first | (go_at_call 27; (with_reducible refine (impl_OppositeOdd.calls kj148 t397 t417 true _ A157.out).mono ?_); rintro e w' ⟨rfl, ⟨nd, rfl⟩⟩; (try first | exact ⟨rfl, _, World.drewN_drewN _ _ _⟩ | exact ⟨rfl, _, Eq.trans (World.drewN_drewN _ _ _) (congrArg (World.drewN _) (Nat.add_assoc _ _ _))⟩)) | (go_at_call 30; (with_reducible refine (impl_OppositeAround.calls t401 t403 t419 true _ A163.out).mono ?_); rintro e w' ⟨rfl, ⟨nd, rfl⟩⟩; (try first | exact ⟨rfl, _, World.drewN_drewN _ _ _⟩ | exact ⟨rfl, _, Eq.trans (World.drewN_drewN _ _ _) (congrArg (World.drewN _) (Nat.add_assoc _ _ _))⟩))))
                        go_ret
                        exact ⟨by first | rfl | (simp [errW_none, errW_some] <;> rfl) | (simp [*, errW_none, errW_some] <;> rfl), by repeat (first | (with_reducible first | exact HB.out | apply below_alloc | apply pw_below_drewN | apply below_drew1) | exact HB.out)⟩
                     rw [if_neg c177] at H
                     have c177b0 : (t402 == 1) = false := beq_eq_false_iff_ne.mpr c177
                     have c177b1 : (t402 != 1) = true := bne_iff_ne.mpr c177
                     by_cases c178 : t402 = t401
                     rotate_left
                     · exact dead_ (if_neg c178) H hr_
                     rw [if_pos c178] at H
                     have c178b0 : (t402 == t401) = true := beq_iff_eq.mpr c178
                     have c178b1 : (t402 != t401) = false := bne_eq_false_iff_eq.mpr c178
                     clear c178
                     as_aux_lemma =>
                      obtain rfl := Option.some.inj H
                      go_wp2_with (first | (go_at_call 27; (with_reducible refine (impl_OppositeOdd.calls kj148 t397 t417 true _ A157.out).mono ?_); rintro e w' ⟨rfl, ⟨nd, rfl⟩⟩; (try first | exact ⟨rfl, _, World.drewN_drewN _ _ _⟩ | exact ⟨rfl, _, Eq.trans (World.drewN_drewN _ _ _) (congrArg (World.drewN _) (Nat.add_assoc _ _ _))⟩)) | (go_at_call 30; (with_reducible refine (impl_OppositeAround.calls t401 t403 t419 true _ A163.out).mono ?_); rintro e w' ⟨rfl, ⟨nd, rfl⟩⟩; (try first | exact ⟨rfl, _, World.drewN_drewN _ _ _⟩ | exact ⟨rfl, _, Eq.trans (World.drewN_drewN _ _ _) (congrArg (World.drewN _) (Nat.add_assoc _ _ _))⟩)))
                      repeat (go_quiet (fail); try go_wp2_with (first | (go_at_call 27; (with_reducible refine (impl_OppositeOdd.calls kj148 t397 t417 true _ A157.out).mono ?_); rintro e w' ⟨rfl, ⟨nd, rfl⟩⟩; (try first | exact ⟨rfl, _, World.drewN_drewN _ _ _⟩ | exact ⟨rfl, _, Eq.trans (World.drewN_drewN _ _ _) (congrArg (World.drewN _) (Nat.add_assoc _ _ _))⟩)) | (go_at_call 30; (with_reducible refine (impl_OppositeAround.calls t401 t403 t419 true _ A163.out).mono ?_); rintro e w' ⟨rfl, ⟨nd, rfl⟩⟩; (try first | exact ⟨rfl, _, World.drewN_drewN _ _ _⟩ | exact ⟨rfl, _, Eq.trans (World.drewN_drewN _ _ _) (congrArg (World.drewN _) (Nat.add_assoc _ _ _))⟩))))
                      go_ret
                      exact ⟨by first | rfl | (simp [errW_none, errW_some] <;> rfl) | (simp [*, errW_none, errW_some] <;> rfl), by repeat (first | (with_reducible first | exact HB.out | apply below_alloc | apply pw_below_drewN | apply below_drew1) | exact HB.out)⟩
                   rw [if_neg c176] at H
                   have c176b0 : (t408 == 1) = false := beq_eq_false_iff_ne.mpr c176
                   have c176b1 : (t408 != 1) = true := bne_iff_ne.mpr c176
                   as_aux_lemma =>
                    obtain rfl := Option.some.inj H
                    go_wp2_with (first | (go_at_call 27; (with_reducible refine (impl_OppositeOdd.calls kj148 t397 t417 true _ A157.out).mono ?_); rintro e w' ⟨rfl, ⟨nd, rfl⟩⟩; (try first | exact ⟨rfl, _, World.drewN_drewN _ _ _⟩ | exact ⟨rfl, _, Eq.trans (World.drewN_drewN _ _ _) (congrArg (World.drewN _) (Nat.add_assoc _ _ _))⟩)) | (go_at_call 30; (with_reducible refine (impl_OppositeAround.calls t401 t403 t419 true _ A163.out).mono ?_); rintro e w' ⟨rfl, ⟨nd, rfl⟩⟩; (try first | exact ⟨rfl, _, World.drewN_drewN _ _ _⟩ | exact ⟨rfl, _, Eq.trans (World.drewN_drewN _ _ _) (congrArg (World.drewN _) (Nat.add_assoc _ _ _))⟩)))
                    repeat (go_quiet (fail); try go_wp2_with (first | (go_at_call 27; (with_reducible refine (impl_OppositeOdd.calls kj148 t397 t417 true _ A157.out).mono ?_); rintro e w' ⟨rfl, ⟨nd, rfl⟩⟩; (try first | exact ⟨rfl, _, World.drewN_drewN _ _ _⟩ | exact ⟨rfl, _, Eq.trans (World.drewN_drewN _ _ _) (congrArg (World.drewN _) (Nat.add_assoc _ _ _))⟩)) | (go_at_call 30; (with_reducible refine (impl_OppositeAround.calls t401 t403 t419 true _ A163.out).mono ?_); rintro e w' ⟨rfl, ⟨nd, rfl⟩⟩; (try first | exact ⟨rfl, _, World.drewN_drewN _ _ _⟩ | exact ⟨rfl, _, Eq.trans (World.drewN_drewN _ _ _) (congrArg (World.drewN _) (Nat.add_assoc _ _ _))⟩))))
                    go_ret
                    exact ⟨by first | rfl | (simp [errW_none, errW_some] <;> rfl) | (simp [*, errW_none, errW_some] <;> rfl), by repeat (first | (with_reducible first | exact HB.out | apply below_alloc | apply pw_below_drewN | apply below_drew1) | exact HB.out)⟩
                 replace c168 := Bool.eq_false_iff.mpr c168
                 subst c168
                 rw [if_neg (show ¬ (false = true) by decide)] at H
                 as_aux_lemma =>
                  obtain rfl := Option.some.inj H
                  go_wp2_with (first | (go_at_call 27; (with_reducible refine (impl_OppositeOdd.calls kj148 t397 t417 true _ A157.out).mono ?_); rintro e w' ⟨rfl, ⟨nd, rfl⟩⟩; (try first | exact ⟨rfl, _, World.drewN_drewN _ _ _⟩ | exact ⟨rfl, _, Eq.trans (World.drewN_drewN _ _ _) (congrArg (World.drewN _) (Nat.add_assoc _ _ _))⟩)) | (go_at_call 30; (with_reducible refine (impl_OppositeAround.calls t401 t403 t419 true _ A163.out).mono ?_); rintro e w' ⟨rfl, ⟨nd, rfl⟩⟩; (try first | exact ⟨rfl, _, World.drewN_drewN _ _ _⟩ | exact ⟨rfl, _, Eq.trans (World.drewN_drewN _ _ _) (congrArg (World.drewN _) (Nat.add_assoc _ _ _))⟩)))
                  repeat (go_quiet (fail); try go_wp2_with (first | (go_at_call 27; (with_reducible refine (impl_OppositeOdd.calls kj148 t397 t417 true _ A157.out).mono ?_); rintro e w' ⟨rfl, ⟨nd, rfl⟩⟩; (try first | exact ⟨rfl, _, World.drewN_drewN _ _ _⟩ | exact ⟨rfl, _, Eq.trans (World.drewN_drewN _ _ _) (congrArg (World.drewN _) (Nat.add_assoc _ _ _))⟩)) | (go_at_call 30; (with_reducible refine (impl_OppositeAround.calls t401 t403 t419 true _ A163.out).mono ?_); rintro e w' ⟨rfl, ⟨nd, rfl⟩⟩; (try first | exact ⟨rfl, _, World.drewN_drewN _ _ _⟩ | exact ⟨rfl, _, Eq.trans (World.drewN_drewN _ _ _) (congrArg (World.drewN _) (Nat.add_assoc _ _ _))⟩))))
                  go_ret
                  exact ⟨by first | rfl | (simp [errW_none, errW_some] <;> rfl) | (simp [*, errW_none, errW_some] <;> rfl), by repeat (first | (with_reducible first | exact HB.out | apply below_alloc | apply pw_below_drewN | apply below_drew1) | exact HB.out)⟩
               replace c164 := Bool.eq_false_iff.mpr c164
               subst c164
               rw [if_neg (show ¬ (false = true) by decide)] at H
               as_aux_lemma =>
                exact Bool.noConfusion ((Option.some.inj H).trans hr_.out)
             replace c162 := Bool.eq_false_iff.mpr c162
             subst c162
             rw [if_neg (show ¬ (false = true) by decide)] at H
             as_aux_lemma =>
             by_cases c179 : t409 = true
             · subst c179
               rw [if_pos rfl] at H
               by_cases c180 : t408 < 1
               · exact dead_ (if_pos c180) H hr_
               rw [if_neg c180] at H
               have c180b0 : decide (t408 < 1) = false := decide_eq_false c180
               clear c180
               by_cases c181 : t408 > 2
               · exact dead_ (if_pos c181) H hr_
               rw [if_neg c181] at H
               have c181b0 : decide (2 < t408) = false := decide_eq_false c181
               clear c181
               by_cases c182 : t408 = 2
               · rw [if_pos c182] at H
                 have c182b0 : (t408 == 2) = true := beq_iff_eq.mpr c182
                 have c182b1 : (t408 != 2) = false := bne_eq_false_iff_eq.mpr c182
                 clear c182
                 by_cases c183 : t407 = (wrap64 (2 * t402))
                 rotate_left
                 · exact dead_ (if_neg c183) H hr_
                 rw [if_pos c183] at H
                 have c183b0 : (t407 == (wrap64 (2 * t402))) = true := beq_iff_eq.mpr c183
                 have c183b1 : (t407 != (wrap64 (2 * t402))) = false := bne_eq_false_iff_eq.mpr c183
                 clear c183
                 by_cases c184 : t408 = 1
                 · rw [if_pos c184] at H
                   have c184b0 : (t408 == 1) = true := beq_iff_eq.mpr c184
                   have c184b1 : (t408 != 1) = false := bne_eq_false_iff_eq.mpr c184
                   clear c184
                   by_cases c185 : t402 = 1
                   · rw [if_pos c185] at H
                     have c185b0 : (t402 == 1) = true := beq_iff_eq.mpr c185
                     have c185b1 : (t402 != 1) = false := bne_eq_false_iff_eq.mpr c185
                     clear c185
                     as_aux_lemma =>
                      obtain rfl := Option.some.inj H
                      go_wp2_with (first | (go_at_call 27; (with_reducible refine (impl_OppositeOdd.calls kj148 t397 t417 true _ A157.out).mono ?_); rintro e w' ⟨rfl, ⟨nd, rfl⟩⟩; (try first | exact ⟨rfl, _, World.drewN_drewN _ _ _⟩ | exact ⟨rfl, _, Eq.trans (World.drewN_drewN _ _ _) (congrArg (World.drewN _) (Nat.add_assoc _ _ _))⟩)))
                      repeat (go_quiet (fail); try go_wp2_with (first | (go_at_call 27; (with_reducible refine (impl_OppositeOdd.calls kj148 t397 t417 true _ A157.out).mono ?_); rintro e w' ⟨rfl, ⟨nd, rfl⟩⟩; (try first | exact ⟨rfl, _, World.drewN_drewN _ _ _⟩ | exact ⟨rfl, _, Eq.trans (World.drewN_drewN _ _ _) (congrArg (World.drewN _) (Nat.add_assoc _ _ _))⟩))))
                      go_ret
                      exact ⟨by first | rfl | (simp [errW_none, errW_some] <;> rfl) | (simp [*, errW_none, errW_some] <;> rfl), by repeat (first | (with_reducible first | exact HB.out | apply below_alloc | apply pw_below_drewN | apply below_drew1) | exact HB.out)⟩
                   rw [if_neg c185] at H
                   have c185b0 : (t402 == 1) = false := beq_eq_false_iff_ne.mpr c185
                   have c185b1 : (t402 != 1) = true := bne_iff_ne.mpr c185
                   by_cases c186 : t402 = t401
                   rotate_left
                   · exact dead_ (if_neg c186) H hr_
                   rw [if_pos c186] at H
                   have c186b0 : (t402 == t401) = true := beq_iff_eq.mpr c186
                   have c186b1 : (t402 != t401) = false := bne_eq_false_iff_eq.mpr c186
                   clear c186
                   as_aux_lemma =>
                    obtain rfl := Option.some.inj H
                    go_wp2_with (first | (go_at_call 27; (with_reducible refine (impl_OppositeOdd.calls kj148 t397 t417 true _ A157.out).mono ?_); rintro e w' ⟨rfl, ⟨nd, rfl⟩⟩; (try first | exact ⟨rfl, _, World.drewN_drewN _ _ _⟩ | exact ⟨rfl, _, Eq.trans (World.drewN_drewN _ _ _) (congrArg (World.drewN _) (Nat.add_assoc _ _ _))⟩)))
                    repeat (go_quiet (fail); try go_wp2_with (first | (go_at_call 27; (with_reducible refine (impl_OppositeOdd.calls kj148 t397 t417 true _ A157.out).mono ?_); rintro e w' ⟨rfl, ⟨nd, rfl⟩⟩; (try first | exact ⟨rfl, _, World.drewN_drewN _ _ _⟩ | exact ⟨rfl, _, Eq.trans (World.drewN_drewN _ _ _) (congrArg (World.drewN _) (Nat.add_assoc _ _ _))⟩))))
                    go_ret
                    exact ⟨by first | rfl | (simp [errW_none, errW_some] <;> rfl) | (simp [*, errW_none, errW_some] <;> rfl), by repeat (first | (with_reducible first | exact HB.out | apply below_alloc | apply pw_below_drewN | apply below_drew1) | exact HB.out)⟩
                 rw [if_neg c184] at H
                 have c184b0 : (t408 == 1) = false := beq_eq_false_iff_ne.mpr c184
                 have c184b1 : (t408 != 1) = true := bne_iff_ne.mpr c184
                 as_aux_lemma =>
                  obtain rfl := Option.some.inj H
                  go_wp2_with (first | (go_at_call 27; (with_reducible refine (impl_OppositeOdd.calls kj148 t397 t417 true _ A157.out).mono ?_); rintro e w' ⟨rfl, ⟨nd, rfl⟩⟩; (try first | exact ⟨rfl, _, World.drewN_drewN _ _ _⟩ | exact ⟨rfl, _, Eq.trans (World.drewN_drewN _ _ _) (congrArg (World.drewN _) (Nat.add_assoc _ _ _))⟩)))
                  repeat (go_quiet (fail); try go_wp2_with (first | (go_at_call 27; (with_reducible refine (impl_OppositeOdd.calls kj148 t397 t417 true _ A157.out).mono ?_); rintro e w' ⟨rfl, ⟨nd, rfl⟩⟩; (try first | exact ⟨rfl, _, World.drewN_drewN _ _ _⟩ | exact ⟨rfl, _, Eq.trans (World.drewN_drewN _ _ _) (congrArg (World.drewN _) (Nat.add_assoc _ _ _))⟩))))
                  go_ret
                  exact ⟨by first | rfl | (simp [errW_none, errW_some] <;> rfl) | (simp [*, errW_none, errW_some] <;> rfl), by repeat (first | (with_reducible first | exact HB.out | apply below_alloc | apply pw_below_drewN | apply below_drew1) | exact HB.out)⟩
               rw [if_neg c182] at H
               have c182b0 : (t408 == 2) = false := beq_eq_false_iff_ne.mpr c182
               have c182b1 : (t408 != 2) = true := bne_iff_ne.mpr c182
               as_aux_lemma =>
               by_cases c187 : t408 = 1
               · rw [if_pos c187] at H
                 have c187b0 : (t408 == 1) = true := beq_iff_eq.mpr c187
                 have c187b1 : (t408 != 1) = false := bne_eq_false_iff_eq.mpr c187
                 clear c187
                 by_cases c188 : t402 = 1
                 · rw [if_pos c188] at H
                   have c188b0 : (t402 == 1) = true := beq_iff_eq.mpr c188
                   have c188b1 : (t402 != 1) = false := bne_eq_false_iff_eq.mpr c188
                   clear c188
                   as_aux_lemma =>
                    obtain rfl := Option.some.inj H
                    go_wp2_with (first | (go_at_call 27; (with_reducible refine (impl_OppositeOdd.calls kj148 t397 t417 true _ A157.out).mono ?_); rintro e w' ⟨rfl, ⟨nd, rfl⟩⟩; (try first | exact ⟨rfl, _, World.drewN_drewN _ _ _⟩ | exact ⟨rfl, _, Eq.trans (World.drewN_drewN _ _ _) (congrArg (World.drewN _) (Nat.add_assoc _ _ _))⟩)))
                    repeat (go_quiet (fail); try go_wp2_with (first | (go_at_call 27; (with_reducible refine (impl_OppositeOdd.calls kj148 t397 t417 true _ A157.out).mono ?_); rintro e w' ⟨rfl, ⟨nd, rfl⟩⟩; (try first | exact ⟨rfl, _, World.drewN_drewN _ _ _⟩ | exact ⟨rfl, _, Eq.trans (World.drewN_drewN _ _ _) (congrArg (World.drewN _) (Nat.add_assoc _ _ _))⟩))))
                    go_ret
                    exact ⟨by first | rfl | (simp [errW_none, errW_some] <;> rfl) | (simp [*, errW_none, errW_some] <;> rfl), by repeat (first | (with_reducible first | exact HB.out | apply below_alloc | apply pw_below_drewN | apply below_drew1) | exact HB.out)⟩
                 rw [if_neg c188] at H
                 have c188b0 : (t402 == 1) = false := beq_eq_false_iff_ne.mpr c188
                 have c188b1 : (t402 != 1) = true := bne_iff_ne.mpr c188
                 by_cases c189 : t402 = t401
                 rotate_left
                 · exact dead_ (if_neg c189) H hr_
                 rw [if_pos c189] at H
                 have c189b0 : (t402 == t401) = true := beq_iff_eq.mpr c189
                 have c189b1 : (t402 != t401) = false := bne_eq_false_iff_eq.mpr c189
                 clear c189
                 as_aux_lemma =>
                  obtain rfl := Option.some.inj H
                  go_wp2_with (first | (go_at_call 27; (with_reducible refine (impl_OppositeOdd.calls kj148 t397 t417 true _ A157.out).mono ?_); rintro e w' ⟨rfl, ⟨nd, rfl⟩⟩; (try first | exact ⟨rfl, _, World.drewN_drewN _ _ _⟩ | exact ⟨rfl, _, Eq.trans (World.drewN_drewN _ _ _) (congrArg (World.drewN _) (Nat.add_assoc _ _ _))⟩)))
                  repeat (go_quiet (fail); try go_wp2_with (first | (go_at_call 27; (with_reducible refine (impl_OppositeOdd.calls kj148 t397 t417 true _ A157.out).mono ?_); rintro e w' ⟨rfl, ⟨nd, rfl⟩⟩; (try first | exact ⟨rfl, _, World.drewN_drewN _ _ _⟩ | exact ⟨rfl, _, Eq.trans (World.drewN_drewN _ _ _) (congrArg (World.drewN _) (Nat.add_assoc _ _ _))⟩))))
                  go_ret
                  exact ⟨by first | rfl | (simp [errW_none, errW_some] <;> rfl) | (simp [*, errW_none, errW_some] <;> rfl), by repeat (first | (with_reducible first | exact HB.out | apply below_alloc | apply pw_below_drewN | apply below_drew1) | exact HB.out)⟩
               rw [if_neg c187] at H
               have c187b0 : (t408 == 1) = false := beq_eq_false_iff_ne.mpr c187
               have c187b1 : (t408 != 1) = true := bne_iff_ne.mpr c187
               as_aux_lemma =>
                obtain rfl := Option.some.inj H
                go_wp2_with (first | (go_at_call 27; (with_reducible refine (impl_OppositeOdd.calls kj148 t397 t417 true _ A157.out).mono ?_); rintro e w' ⟨rfl, ⟨nd, rfl⟩⟩; (try first | exact ⟨rfl, _, World.drewN_drewN _ _ _⟩ | exact ⟨rfl, _, Eq.trans (World.drewN_drewN _ _ _) (congrArg (World.drewN _) (Nat.add_assoc _ _ _))⟩)))
                repeat (go_quiet (fail); try go_wp2_with (first | (go_at_call 27; (with_reducible refine (impl_OppositeOdd.calls kj148 t397 t417 true _ A157.out).mono ?_); rintro e w' ⟨rfl, ⟨nd, rfl⟩⟩; (try first | exact ⟨rfl, _, World.drewN_drewN _ _ _⟩ | exact ⟨rfl, _, Eq.trans (World.drewN_drewN _ _ _) (congrArg (World.drewN _) (Nat.add_assoc _ _ _))⟩))))
                go_ret
                exact ⟨by first | rfl | (simp [errW_none, errW_some] <;> rfl) | (simp [*, errW_none, errW_some] <;> rfl), by repeat (first | (with_reducible first | exact HB.out | apply below_alloc | apply pw_below_drewN | apply below_drew1) | exact HB.out)⟩
             replace c179 := Bool.eq_false_iff.mpr c179
             subst c179
             rw [if_neg (show ¬ (false = true) by decide)] at H
             as_aux_lemma =>
              obtain rfl := Option.some.inj H
              go_wp2_with (first | (go_at_call 27; (with_reducible refine (impl_OppositeOdd.calls kj148 t397 t417 true _ A157.out).mono ?_); rintro e w' ⟨rfl, ⟨nd, rfl⟩⟩; (try first | exact ⟨rfl, _, World.drewN_drewN _ _ _⟩ | exact ⟨rfl, _, Eq.trans (World.drewN_drewN _ _ _) (congrArg (World.drewN _) (Nat.add_assoc _ _ _))⟩)))
              repeat (go_quiet (fail); try go_wp2_with (first | (go_at_call 27; (with_reducible refine (impl_OppositeOdd.calls kj148 t397 t417 true _ A157.out).mono ?_); rintro e w' ⟨rfl, ⟨nd, rfl⟩⟩; (try first | exact ⟨rfl, _, World.drewN_drewN _ _ _⟩ | exact ⟨rfl, _, Eq.trans (World.drewN_drewN _ _ _) (congrArg (World.drewN _) (Nat.add_assoc _ _ _))⟩))))
              go_ret
              exact ⟨by first | rfl | (simp [errW_none, errW_some] <;> rfl) | (simp [*, errW_none, errW_some] <;> rfl), by repeat (first | (with_reducible first | exact HB.out | apply below_alloc | apply pw_below_drewN | apply below_drew1) | exact HB.out)⟩
           replace c158 := Bool.eq_false_iff.mpr c158
           subst c158
           rw [if_neg (show ¬ (false = true) by decide)] at H
           as_aux_lemma =>
            exact Bool.noConfusion ((Option.some.inj H).trans hr_.out)
         replace c156 := Bool.eq_false_iff.mpr c156
         subst c156
         rw [if_neg (show ¬ (false = true) by decide)] at H
         as_aux_lemma =>
         by_cases c190 : t404 = true
         · subst c190
           rw [if_pos rfl] at H
           replace H := Option.bind_eq_some_iff.mp H
           obtain ⟨⟨t421, t422⟩, A1910, H⟩ := H
           dsimp only at H
           have A191 := Aside0.mk A1910
           clear A1910
           by_cases c192 : t422 = true
           · subst c192
             rw [if_pos rfl] at H
             by_cases c193 : t421 = t402
             rotate_left
             · exact dead_ (if_neg c193) H hr_
             rw [if_pos c193] at H
             have c193b0 : (t421 == t402) = true := beq_iff_eq.mpr c193
             have c193b1 : (t421 != t402) = false := bne_eq_false_iff_eq.mpr c193
             clear c193
             by_cases c194 : t403 = t402
             · exact dead_ (if_pos c194) H hr_
             rw [if_neg c194] at H
             have c194b0 : (t403 == t402) = false := beq_eq_false_iff_ne.mpr c194
             have c194b1 : (t403 != t402) = true := bne_iff_ne.mpr c194
             by_cases c195 : (wrap64 (t403 + t402)) = (wrap64 (t401 + 1))
             rotate_left
             · exact dead_ (if_neg c195) H hr_
             rw [if_pos c195] at H
             have c195b0 : ((wrap64 (t403 + t402)) == (wrap64 (t401 + 1))) = true := beq_iff_eq.mpr c195
             have c195b1 : ((wrap64 (t403 + t402)) != (wrap64 (t401 + 1))) = false := bne_eq_false_iff_eq.mpr c195
             clear c195
             by_cases c196 : t409 = true
             · subst c196
               rw [if_pos rfl] at H
               by_cases c197 : t408 < 1
               · exact dead_ (if_pos c197) H hr_
               rw [if_neg c197] at H
               have c197b0 : decide (t408 < 1) = false := decide_eq_false c197
               clear c197
               by_cases c198 : t408 > 2
               · exact dead_ (if_pos c198) H hr_
               rw [if_neg c198] at H
               have c198b0 : decide (2 < t408) = false := decide_eq_false c198
               clear c198
               by_cases c199 : t408 = 2
               · rw [if_pos c199] at H
                 have c199b0 : (t408 == 2) = true := beq_iff_eq.mpr c199
                 have c199b1 : (t408 != 2) = false := bne_eq_false_iff_eq.mpr c199
                 clear c199
                 by_cases c200 : t407 = (wrap64 (2 * t402))
                 rotate_left
                 · exact dead_ (if_neg c200) H hr_
                 rw [if_pos c200] at H
                 have c200b0 : (t407 == (wrap64 (2 * t402))) = true := beq_iff_eq.mpr c200
                 have c200b1 : (t407 != (wrap64 (2 * t402))) = false := bne_eq_false_iff_eq.mpr c200
                 clear c200
                 by_cases c201 : t408 = 1
                 · rw [if_pos c201] at H
                   have c201b0 : (t408 == 1) = true := beq_iff_eq.mpr c201
                   have c201b1 : (t408 != 1) = false := bne_eq_false_iff_eq.mpr c201
                   clear c201
                   by_cases c202 : t402 = 1
                   · rw [if_pos c202] at H
                     have c202b0 : (t402 == 1) = true := beq_iff_eq.mpr c202
                     have c202b1 : (t402 != 1) = false := bne_eq_false_iff_eq.mpr c202
                     clear c202
                     as_aux_lemma =>
                      obtain rfl := Option.some.inj H
                      go_wp2_with (first | (go_at_call 30; (with_reducible refine (impl_OppositeAround.calls t401 t403 t421 true _ A191.out).mono ?_); rintro e w' ⟨rfl, ⟨nd, rfl⟩⟩; (try first | exact ⟨rfl, _, World.drewN_drewN _ _ _⟩ | exact ⟨rfl, _, Eq.trans (World.drewN_drewN _ _ _) (congrArg (World.drewN _) (Nat.add_assoc _ _ _))⟩)))
                      repeat (go_quiet (fail); try go_wp2_with (first | (go_at_call 30; (with_reducible refine (impl_OppositeAround.calls t401 t403 t421 true _ A191.out).mono ?_); rintro e w' ⟨rfl, ⟨nd, rfl⟩⟩; (try first | exact ⟨rfl, _, World.drewN_drewN _ _ _⟩ | exact ⟨rfl, _, Eq.trans (World.drewN_drewN _ _ _) (congrArg (World.drewN _) (Nat.add_assoc _ _ _))⟩))))
                      go_ret
                      exact ⟨by first | rfl | (simp [errW_none, errW_some] <;> rfl) | (simp [*, errW_none, errW_some] <;> rfl), by repeat (first | (with_reducible first | exact HB.out | apply below_alloc | apply pw_below_drewN | apply below_drew1) | exact HB.out)⟩
                   rw [if_neg c202] at H
                   have c202b0 : (t402 == 1) = false := beq_eq_false_iff_ne.mpr c202
                   have c202b1 : (t402 != 1) = true := bne_iff_ne.mpr c202
                   by_cases c203 : t402 = t401
                   rotate_left
                   · exact dead_ (if_neg c203) H hr_
                   rw [if_pos c203] at H
                   have c203b0 : (t402 == t401) = true := beq_iff_eq.mpr c203
                   have c203b1 : (t402 != t401) = false := bne_eq_false_iff_eq.mpr c203
                   clear c203
                   as_aux_lemma =>
                    obtain rfl := Option.some.inj H
                    go_wp2_with (first | (go_at_call 30; (with_reducible refine (impl_OppositeAround.calls t401 t403 t421 true _ A191.out).mono ?_); rintro e w' ⟨rfl, ⟨nd, rfl⟩⟩; (try first | exact ⟨rfl, _, World.drewN_drewN _ _ _⟩ | exact ⟨rfl, _, Eq.trans (World.drewN_drewN _ _ _) (congrArg (World.drewN _) (Nat.add_assoc _ _ _))⟩)))
                    repeat (go_quiet (fail); try go_wp2_with (first | (go_at_call 30; (with_reducible refine (impl_OppositeAround.calls t401 t403 t421 true _ A191.out).mono ?_); rintro e w' ⟨rfl, ⟨nd, rfl⟩⟩; (try first | exact ⟨rfl, _, World.drewN_drewN _ _ _⟩ | exact ⟨rfl, _, Eq.trans (World.drewN_drewN _ _ _) (congrArg (World.drewN _) (Nat.add_assoc _ _ _))⟩))))
                    go_ret
                    exact ⟨by first | rfl | (simp [errW_none, errW_some] <;> rfl) | (simp [*, errW_none, errW_some] <;> rfl), by repeat (first | (with_reducible first | exact HB.out | apply below_alloc | apply pw_below_drewN | apply below_drew1) | exact HB.out)⟩
                 rw [if_neg c201] at H
                 have c201b0 : (t408 == 1) = false := beq_eq_false_iff_ne.mpr c201
                 have c201b1 : (t408 != 1) = true := bne_iff_ne.mpr c201
                 as_aux_lemma =>
                  obtain rfl := Option.some.inj H
                  go_wp2_with (first | (go_at_call 30; (with_reducible refine (impl_OppositeAround.calls t401 t403 t421 true _ A191.out).mono ?_); rintro e w' ⟨rfl, ⟨nd, rfl⟩⟩; (try first | exact ⟨rfl, _, World.drewN_drewN _ _ _⟩ | exact ⟨rfl, _, Eq.trans (World.drewN_drewN _ _ _) (congrArg (World.drewN _) (Nat.add_assoc _ _ _))⟩)))
                  repeat (go_quiet (fail); try go_wp2_with (first | (go_at_call 30; (with_reducible refine (impl_OppositeAround.calls t401 t403 t421 true _ A191.out).mono ?_); rintro e w' ⟨rfl, ⟨nd, rfl⟩⟩; (try first | exact ⟨rfl, _, World.drewN_drewN _ _ _⟩ | exact ⟨rfl, _, Eq.trans (World.drewN_drewN _ _ _) (congrArg (World.drewN _) (Nat.add_assoc _ _ _))⟩))))
                  go_ret
                  exact ⟨by first | rfl | (simp [errW_none, errW_some] <;> rfl) | (simp [*, errW_none, errW_some] <;> rfl), by repeat (first | (with_reducible first | exact HB.out | apply below_alloc | apply pw_below_drewN | apply below_drew1) | exact HB.out)⟩
               rw [if_neg c199] at H
               have c199b0 : (t408 == 2) = false := beq_eq_false_iff_ne.mpr c199
               have c199b1 : (t408 != 2) = true := bne_iff_ne.mpr c199
               as_aux_lemma =>
               by_cases c204 : t408 = 1
               · rw [if_pos c204] at H
                 have c204b0 : (t408 == 1) = true := beq_iff_eq.mpr c204
                 have c204b1 : (t408 != 1) = false := bne_eq_false_iff_eq.mpr c204
                 clear c204
                 by_cases c205 : t402 = 1
                 · rw [if_pos c205] at H
                   have c205b0 : (t402 == 1) = true := beq_iff_eq.mpr c205
                   have c205b1 : (t402 != 1) = false := bne_eq_false_iff_eq.mpr c205
                   clear c205
                   as_aux_lemma =>
                    obtain rfl := Option.some.inj H
                    go_wp2_with (first | (go_at_call 30; (with_reducible refine (impl_OppositeAround.calls t401 t403 t421 true _ A191.out).mono ?_); rintro e w' ⟨rfl, ⟨nd, rfl⟩⟩; (try first | exact ⟨rfl, _, World.drewN_drewN _ _ _⟩ | exact ⟨rfl, _, Eq.trans (World.drewN_drewN _ _ _) (congrArg (World.drewN _) (Nat.add_assoc _ _ _))⟩)))
                    repeat (go_quiet (fail); try go_wp2_with (first | (go_at_call 30; (with_reducible refine (impl_OppositeAround.calls t401 t403 t421 true _ A191.out).mono ?_); rintro e w' ⟨rfl, ⟨nd, rfl⟩⟩; (try first | exact ⟨rfl, _, World.drewN_drewN _ _ _⟩ | exact ⟨rfl, _, Eq.trans (World.drewN_drewN _ _ _) (congrArg (World.drewN _) (Nat.add_assoc _ _ _))⟩))))
                    go_ret
                    exact ⟨by first | rfl | (simp [errW_none, errW_some] <;> rfl) | (simp [*, errW_none, errW_some] <;> rfl), by repeat (first | (with_reducible first | exact HB.out | apply below_alloc | apply pw_below_drewN | apply below_drew1) | exact HB.out)⟩
                 rw [if_neg c205] at H
                 have c205b0 : (t402 == 1) = false := beq_eq_false_iff_ne.mpr c205
                 have c205b1 : (t402 != 1) = true := bne_iff_ne.mpr c205
                 by_cases c206 : t402 = t401
                 rotate_left
                 · exact dead_ (if_neg c206) H hr_
                 rw [if_pos c206] at H
                 have c206b0 : (t402 == t401) = true := beq_iff_eq.mpr c206
                 have c206b1 : (t402 != t401) = false := bne_eq_false_iff_eq.mpr c206
                 clear c206
                 as_aux_lemma =>
                  obtain rfl := Option.some.inj H
                  go_wp2_with (first | (go_at_call 30; (with_reducible refine (impl_OppositeAround.calls t401 t403 t421 true _ A191.out).mono ?_); rintro e w' ⟨rfl, ⟨nd, rfl⟩⟩; (try first | exact ⟨rfl, _, World.drewN_drewN _ _ _⟩ | exact ⟨rfl, _, Eq.trans (World.drewN_drewN _ _ _) (congrArg (World.drewN _) (Nat.add_assoc _ _ _))⟩)))
                  repeat (go_quiet (fail); try go_wp2_with (first | (go_at_call 30; (with_reducible refine (impl_OppositeAround.calls t401 t403 t421 true _ A191.out).mono ?_); rintro e w' ⟨rfl, ⟨nd, rfl⟩⟩; (try first | exact ⟨rfl, _, World.drewN_drewN _ _ _⟩ | exact ⟨rfl, _, Eq.trans (World.drewN_drewN _ _ _) (congrArg (World.drewN _) (Nat.add_assoc _ _ _))⟩))))
                  go_ret
                  exact ⟨by first | rfl | (simp [errW_none, errW_some] <;> rfl) | (simp [*, errW_none, errW_some] <;> rfl), by repeat (first | (with_reducible first | exact HB.out | apply below_alloc | apply pw_below_drewN | apply below_drew1) | exact HB.out)⟩
               rw [if_neg c204] at H
               have c204b0 : (t408 == 1) = false := beq_eq_false_iff_ne.mpr c204
               have c204b1 : (t408 != 1) = true := bne_iff_ne.mpr c204
               as_aux_lemma =>
                obtain rfl := Option.some.inj H
                go_wp2_with (first | (go_at_call 30; (with_reducible refine (impl_OppositeAround.calls t401 t403 t421 true _ A191.out).mono ?_); rintro e w' ⟨rfl, ⟨nd, rfl⟩⟩; (try first | exact ⟨rfl, _, World.drewN_drewN _ _ _⟩ | exact ⟨rfl, _, Eq.trans (World.drewN_drewN _ _ _) (congrArg (World.drewN _) (Nat.add_assoc _ _ _))⟩)))
                repeat (go_quiet (fail); try go_wp2_with (first | (go_at_call 30; (with_reducible refine (impl_OppositeAround.calls t401 t403 t421 true _ A191.out).mono ?_); rintro e w' ⟨rfl, ⟨nd, rfl⟩⟩; (try first | exact ⟨rfl, _, World.drewN_drewN _ _ _⟩ | exact ⟨rfl, _, Eq.trans (World.drewN_drewN _ _ _) (congrArg (World.drewN _) (Nat.add_assoc _ _ _))⟩))))
                go_ret
                exact ⟨by first | rfl | (simp [errW_none, errW_some] <;> rfl) | (simp [*, errW_none, errW_some] <;> rfl), by repeat (first | (with_reducible first | exact HB.out | apply below_alloc | apply pw_below_drewN | apply below_drew1) | exact HB.out)⟩
             replace c196 := Bool.eq_false_iff.mpr c196
             subst c196
             rw [if_neg (show ¬ (false = true) by decide)] at H
             as_aux_lemma =>
              obtain rfl := Option.some.inj H
              go_wp2_with (first | (go_at_call 30; (with_reducible refine (impl_OppositeAround.calls t401 t403 t421 true _ A191.out).mono ?_); rintro e w' ⟨rfl, ⟨nd, rfl⟩⟩; (try first | exact ⟨rfl, _, World.drewN_drewN _ _ _⟩ | exact ⟨rfl, _, Eq.trans (World.drewN_drewN _ _ _) (congrArg (World.drewN _) (Nat.add_assoc _ _ _))⟩)))
              repeat (go_quiet (fail); try go_wp2_with (first | (go_at_call 30; (with_reducible refine (impl_OppositeAround.calls t401 t403 t421 true _ A191.out).mono ?_); rintro e w' ⟨rfl, ⟨nd, rfl⟩⟩; (try first | exact ⟨rfl, _, World.drewN_drewN _ _ _⟩ | exact ⟨rfl, _, Eq.trans (World.drewN_drewN _ _ _) (congrArg (World.drewN _) (Nat.add_assoc _ _ _))⟩))))
              go_ret
              exact ⟨by first | rfl | (simp [errW_none, errW_some] <;> rfl) | (simp [*, errW_none, errW_some] <;> rfl), by repeat (first | (with_reducible first | exact HB.out | apply below_alloc | apply pw_below_drewN | apply below_drew1) | exact HB.out)⟩
           replace c192 := Bool.eq_false_iff.mpr c192
           subst c192
           rw [if_neg (show ¬ (false = true) by decide)] at H
           as_aux_lemma =>
            exact Bool.noConfusion ((Option.some.inj H).trans hr_.out)
         replace c190 := Bool.eq_false_iff.mpr c190
         subst c190
         rw [if_neg (show ¬ (false = true) by decide)] at H
         as_aux_lemma =>
         by_cases c207 : t409 = true
         · subst c207
           rw [if_pos rfl] at H
           by_cases c208 : t408 < 1
           · exact dead_ (if_pos c208) H hr_
           rw [if_neg c208] at H
           have c208b0 : decide (t408 < 1) = false := decide_eq_false c208
           clear c208
           by_cases c209 : t408 > 2
           · exact dead_ (if_pos c209) H hr_
           rw [if_neg c209] at H
           have c209b0 : decide (2 < t408) = false := decide_eq_false c209
           clear c209
           by_cases c210 : t408 = 2
           · rw [if_pos c210] at H
             have c210b0 : (t408 == 2) = true := beq_iff_eq.mpr c210
             have c210b1 : (t408 != 2) = false := bne_eq_false_iff_eq.mpr c210
             clear c210
             by_cases c211 : t407 = (wrap64 (2 * t402))
             rotate_left
             · exact dead_ (if_neg c211) H hr_
             rw [if_pos c211] at H
             have c211b0 : (t407 == (wrap64 (2 * t402))) = true := beq_iff_eq.mpr c211
             have c211b1 : (t407 != (wrap64 (2 * t402))) = false := bne_eq_false_iff_eq.mpr c211
             clear c211
             by_cases c212 : t408 = 1
             · rw [if_pos c212] at H
               have c212b0 : (t408 == 1) = true := beq_iff_eq.mpr c212
               have c212b1 : (t408 != 1) = false := bne_eq_false_iff_eq.mpr c212
               clear c212
               by_cases c213 : t402 = 1
               · rw [if_pos c213] at H
                 have c213b0 : (t402 == 1) = true := beq_iff_eq.mpr c213
                 have c213b1 : (t402 != 1) = false := bne_eq_false_iff_eq.mpr c213
                 clear c213
                 as_aux_lemma =>
                  obtain rfl := Option.some.inj H
                  go_wp2
                  repeat (go_quiet (fail); try go_wp2)
                  go_ret
                  exact ⟨by first | rfl | (simp [errW_none, errW_some] <;> rfl) | (simp [*, errW_none, errW_some] <;> rfl), by repeat (first | (with_reducible first | exact HB.out | apply below_alloc | apply pw_below_drewN | apply below_drew1) | exact HB.out)⟩
               rw [if_neg c213] at H
               have c213b0 : (t402 == 1) = false := beq_eq_false_iff_ne.mpr c213
               have c213b1 : (t402 != 1) = true := bne_iff_ne.mpr c213
               by_cases c214 : t402 = t401
               rotate_left
               · exact dead_ (if_neg c214) H hr_
               rw [if_pos c214] at H
               have c214b0 : (t402 == t401) = true := beq_iff_eq.mpr c214
               have c214b1 : (t402 != t401) = false := bne_eq_false_iff_eq.mpr c214
               clear c214
               as_aux_lemma =>
                obtain rfl := Option.some.inj H
                go_wp2
                repeat (go_quiet (fail); try go_wp2)
                go_ret
                exact ⟨by first | rfl | (simp [errW_none, errW_some] <;> rfl) | (simp [*, errW_none, errW_some] <;> rfl), by repeat (first | (with_reducible first | exact HB.out | apply below_alloc | apply pw_below_drewN | apply below_drew1) | exact HB.out)⟩
             rw [if_neg c212] at H
             have c212b0 : (t408 == 1) = false := beq_eq_false_iff_ne.mpr c212
             have c212b1 : (t408 != 1) = true := bne_iff_ne.mpr c212
             as_aux_lemma =>
              obtain rfl := Option.some.inj H
              go_wp2
              repeat (go_quiet (fail); try go_wp2)
              go_ret
              exact ⟨by first | rfl | (simp [errW_none, errW_some] <;> rfl) | (simp [*, errW_none, errW_some] <;> rfl), by repeat (first | (with_reducible first | exact HB.out | apply below_alloc | apply pw_below_drewN | apply below_drew1) | exact HB.out)⟩
           rw [if_neg c210] at H
           have c210b0 : (t408 == 2) = false := beq_eq_false_iff_ne.mpr c210
           have c210b1 : (t408 != 2) = true := bne_iff_ne.mpr c210
           as_aux_lemma =>
           by_cases c215 : t408 = 1
           · rw [if_pos c215] at H
             have c215b0 : (t408 == 1) = true := beq_iff_eq.mpr c215
             have c215b1 : (t408 != 1) = false := bne_eq_false_iff_eq.mpr c215
             clear c215
             by_cases c216 : t402 = 1
             · rw [if_pos c216] at H
               have c216b0 : (t402 == 1) = true := beq_iff_eq.mpr c216
               have c216b1 : (t402 != 1) = false := bne_eq_false_iff_eq.mpr c216
               clear c216
               as_aux_lemma =>
                obtain rfl := Option.some.inj H
                go_wp2
                repeat (go_quiet (fail); try go_wp2)
                go_ret
                exact ⟨by first | rfl | (simp [errW_none, errW_some] <;> rfl) | (simp [*, errW_none, errW_some] <;> rfl), by repeat (first | (with_reducible first | exact HB.out | apply below_alloc | apply pw_below_drewN | apply below_drew1) | exact HB.out)⟩
             rw [if_neg c216] at H
             have c216b0 : (t402 == 1) = false := beq_eq_false_iff_ne.mpr c216
             have c216b1 : (t402 != 1) = true := bne_iff_ne.mpr c216
             by_cases c217 : t402 = t401
             rotate_left
             · exact dead_ (if_neg c217) H hr_
             rw [if_pos c217] at H
             have c217b0 : (t402 == t401) = true := beq_iff_eq.mpr c217
             have c217b1 : (t402 != t401) = false := bne_eq_false_iff_eq.mpr c217
             clear c217
             as_aux_lemma =>
              obtain rfl := Option.some.inj H
              go_wp2
              repeat (go_quiet (fail); try go_wp2)
              go_ret
              exact ⟨by first | rfl | (simp [errW_none, errW_some] <;> rfl) | (simp [*, errW_none, errW_some] <;> rfl), by repeat (first | (with_reducible first | exact HB.out | apply below_alloc | apply pw_below_drewN | apply below_drew1) | exact HB.out)⟩
           rw [if_neg c215] at H
           have c215b0 : (t408 == 1) = false := beq_eq_false_iff_ne.mpr c215
           have c215b1 : (t408 != 1) = true := bne_iff_ne.mpr c215
           as_aux_lemma =>
            obtain rfl := Option.some.inj H
            go_wp2
            repeat (go_quiet (fail); try go_wp2)
            go_ret
            exact ⟨by first | rfl | (simp [errW_none, errW_some] <;> rfl) | (simp [*, errW_none, errW_some] <;> rfl), by repeat (first | (with_reducible first | exact HB.out | apply below_alloc | apply pw_below_drewN | apply below_drew1) | exact HB.out)⟩
         replace c207 := Bool.eq_false_iff.mpr c207
         subst c207
         rw [if_neg (show ¬ (false = true) by decide)] at H
         as_aux_lemma =>
          obtain rfl := Option.some.inj H
          go_wp2
          repeat (go_quiet (fail); try go_wp2)
          go_ret
          exact ⟨by first | rfl | (simp [errW_none, errW_some] <;> rfl) | (simp [*, errW_none, errW_some] <;> rfl), by repeat (first | (with_reducible first | exact HB.out | apply below_alloc | apply pw_below_drewN | apply below_drew1) | exact HB.out)⟩

/-- THE ONE PURE STATEMENT of laws_FnHousesRun: yours. -/
def laws_FnHousesRun.Pure : Prop := ∀ (l0 : List Int) (l1 : List Int), l0.length ≤ maxLen → l0.length * 1 ≤ 140737488351232 → (∀ x ∈ l0, (Lit.int .u8 x).wf = true) → l1.length ≤ maxLen → l1.length * 1 ≤ 140737488351232 → (∀ x ∈ l1, (Lit.int .u8 x).wf = true) → ∃ k, laws_FnHousesRun.f k l0 l1 = some true
theorem laws_FnHousesRun.walk (P : laws_FnHousesRun.Pure) (a0 : Option Addr) (len0 cap0 : Nat) (z0 : List Int) (a1 : Option Addr) (len1 cap1 : Nat) (z1 : List Int) (w : World) (w0 : (a0 = none ∧ len0 = 0 ∧ cap0 = 0 ∧ z0 = []) ∨ ∃ x, a0 = some x ∧ len0 ≤ cap0 ∧ cap0 ≤ maxLen ∧ z0.length = cap0 ∧ (∀ i, i < z0.length → w.cell? (x.add i) = some (.int .u8 (z0.getD i 0))) ∧ ∀ n ∈ z0, (Lit.int .u8 n).wf = true) (y0 : len0 * 1 ≤ 140737488351232) (w1 : (a1 = none ∧ len1 = 0 ∧ cap1 = 0 ∧ z1 = []) ∨ ∃ x, a1 = some x ∧ len1 ≤ cap1 ∧ cap1 ≤ maxLen ∧ z1.length = cap1 ∧ (∀ i, i < z1.length → w.cell? (x.add i) = some (.int .u8 (z1.getD i 0))) ∧ ∀ n ∈ z1, (Lit.int .u8 n).wf = true) (y1 : len1 * 1 ≤ 140737488351232) :
 Calls Try.prog 3 #[.slice a0 len0 cap0, .slice a1 len1 cap1] w fun e w' => e = .returned (.bool true) ∧ Below w.heap.size w w' := by
 obtain ⟨l0, rfl, hr0, hm0, hw0, hc0⟩ := ReadsInt.ofRowC w0
 obtain ⟨l1, rfl, hr1, hm1, hw1, hc1⟩ := ReadsInt.ofRowC w1
 obtain ⟨k, h⟩ := P l0 l1 hm0 y0 hw0 hm1 y1 hw1
 refine (laws_FnHousesRun.calls k _ _ l0 _ _ l1 true w (Kd.C_of_reads (d := (0 : Int)) (h1 := fun _ => rfl) hr0) hc0 (Kd.C_of_reads (d := (0 : Int)) (h1 := fun _ => rfl) hr1) hc1 (Aside0.mk rfl) h).mono ?_
 rintro e w' ⟨rfl, hd⟩
 exact ⟨rfl, hd⟩

end Go.Proofs.Ytjhmocngcnnfdaa.PFnHousesRun

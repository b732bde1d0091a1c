-- Laid by this session's program gprint.py over the kit's print.
import Derived.Test.YtiobgaeambfcbaaDoorPFnDigitsWrittenx0
import Derived.Test.YtiobgaeambfcbaaDoorPFnDigitsWrittenx1
import Derived.Test.YtiobgaeambfcbaaDoorPFnDigitsWrittenx2
import Derived.Test.YtiobgaeambfcbaaDoorPFnDigitsWrittenx3
import Derived.Test.YtiobgaeambfcbaaDoorPFnDigitsWrittenx4
import Derived.Test.YtiobgaeambfcbaaDoorPFnDigitsWrittenx5
namespace Go.Proofs.YtiobgaeambfcbaaDoor.PFnDigitsWritten
open Go.RowKit Go.Proofs.YtiobgaeambfcbaaDoorW.PrintWords Go.Proofs.YtiobgaeambfcbaaDoorW.PrintLast Go.Proofs.YtiobgaeambfcbaaDoorW.PrintMore
attribute [local go_sem] max2_int min2_int max_two min_two max_three min_three max_four min_four   -- for this text's walks alone
set_option linter.unusedVariables false
set_option linter.unusedSimpArgs false
theorem z6_0_ {p : Prop} (h : p := by (try simp only [List.map_toArray, List.map_cons, List.map_nil]); first | done | rfl | (simp only [List.length_drop, List.length_take]; rfl)) : p := h
theorem z6_1_ {p : Prop} (h : p := by repeat (first | (with_reducible first | exact HB.out | apply below_alloc | apply pw_below_drewN | apply below_drew1) | exact HB.out)) : p := h
theorem z6_2_ {p : Prop} (h : p := by first | rfl | (simp; done) | (simp [*]; done)) : p := h
theorem z6_3_ {p : Prop} (h : p := by (with_reducible repeat (first | apply Kd.R_alloc | apply Kd.R_drewN | apply Kd.R_drew)); exact HO260.out) : p := h
theorem z6_4_ {p : Prop} (h : p := by (with_reducible repeat (first | apply Kd.R_alloc | apply Kd.R_drewN | apply Kd.R_drew)); exact HO264.out) : p := h
theorem z6_5_ {p : Prop} (h : p := by (with_reducible repeat (first | apply Kd.R_alloc | apply Kd.R_drewN | apply Kd.R_drew)); exact HO_241.out) : p := h
theorem z6_6_ {p : Prop} (h : p := by (with_reducible repeat (first | apply Kd.R_alloc | apply Kd.R_drewN | apply Kd.R_drew)); exact HO_6.out) : p := h

/-! ### laws_FnDigitsWritten: function 3 -/
mutual
def laws_FnDigitsWritten.j0 : Nat → List Int → Int → List Int → Bool → Int → Int → Int → Int → Bool → Int → Int → Bool → Option (Bool)
 | 0, _, _, _, _, _, _, _, _, _, _, _, _ => none
 | k + 1, x1, x5, x6, x7, x10, x14, x18, x22, x23, x26, x27, x230 => if x230 = true then (some false) else (if x7 = true then (if (x6.length : Int) = 10 then ((laws_eSum.f k x6).bind fun t290 => (if t290 = x10 then (laws_FnDigitsWritten.l0 k x1 x5 x6 x10 x14 x18 x22 x23 x26 x27 0 x6 (x6.length : Int) 0) else (some false))) else (some false)) else (laws_FnDigitsWritten.j3 k x1 x5 x22 x23 x26 x27))
def laws_FnDigitsWritten.j3 : Nat → List Int → Int → Int → Bool → Int → Int → Option (Bool)
 | 0, _, _, _, _, _, _ => none
 | k + 1, x1, x5, x22, x23, x26, x27 => if x23 = true then ((impl_DigitsWritten.f k (wrap64 (x26 - 1))).bind fun bt306 => ((impl_DigitsWritten.f k x26).bind fun bt308 => (if x26 < 1 then (some false) else (if x27 < 1 then (some false) else (if x22 < 0 then (some false) else (if x22 > 9 then (some false) else (if bt306.2 = true then (if (wrap64 (bt306.1 + x27)) = x5 then (if bt308.2 = true then (if x5 > bt308.1 then (some false) else (laws_FnDigitsWritten.l1 k x1 x22 bt308.1 x26 x5)) else (some false)) else (some false)) else (some false)))))))) else (laws_FnDigitsWritten.j5 k x1)
def laws_FnDigitsWritten.j5 : Nat → List Int → Option (Bool)
 | 0, _ => none
 | k + 1, x1 => (spec_DrawLeastForCount.f x1).bind fun bt310 => ((impl_LeastForCount.f k bt310.1 bt310.2).bind fun bt312 => ((spec_LeastForCount.f k bt310.1 bt310.2).bind fun bt314 => ((spec_DrawCountDigit.f x1).bind fun bt316 => ((impl_CountDigit.f k bt316.1 bt316.2).bind fun bt318 => ((spec_CountDigit.f k bt316.1 bt316.2).bind fun bt320 => (if (bt312.2 != bt314.2) = true then (some false) else (if bt312.1 = bt314.1 then (if (bt318.2 != bt320.2) = true then (some false) else (if bt318.1 = bt320.1 then (if bt312.2 = true then ((impl_CountDigit.f k bt312.1 bt310.1).bind fun bt322 => ((impl_CountDigit.f k (wrap64 (bt312.1 - 1)) bt310.1).bind fun bt324 => (if bt322.2 = true then (if bt322.1 < bt310.2 then (some false) else (if bt324.2 = true then (if bt324.1 ≥ bt310.2 then (some false) else (laws_FnDigitsWritten.j6 k bt316.1 bt316.2 bt318.1 bt318.2)) else (some false))) else (some false)))) else (laws_FnDigitsWritten.j6 k bt316.1 bt316.2 bt318.1 bt318.2)) else (some false))) else (some false))))))))
def laws_FnDigitsWritten.j6 : Nat → Int → Int → Int → Bool → Option (Bool)
 | 0, _, _, _, _ => none
 | k + 1, x59, x60, x61, x62 => if x62 = true then (laws_FnDigitsWritten.j7 k x59 x60 x61 (decide (x59 > 0))) else (laws_FnDigitsWritten.j7 k x59 x60 x61 false)
def laws_FnDigitsWritten.j7 : Nat → Int → Int → Int → Bool → Option (Bool)
 | 0, _, _, _, _ => none
 | k + 1, x59, x60, x61, x505 => if x505 = true then ((impl_CountDigit.f k (wrap64 (x59 - 1)) x60).bind fun bt326 => (laws_FnDigitsWritten.l2 k x60 x61 bt326.1 bt326.2 0 x59)) else (some true)
def laws_FnDigitsWritten.l2 : Nat → Int → Int → Int → Bool → Int → Int → Option (Bool)
 | 0, _, _, _, _, _, _ => none
 | k + 1, x60, x61, x69, x70, x71, x72 => if x72 > 0 then (if (Int.tmod x72 10) = x60 then (laws_FnDigitsWritten.l2 k x60 x61 x69 x70 (wrap64 (x71 + 1)) (wrap64 (Int.tdiv x72 10))) else (laws_FnDigitsWritten.l2 k x60 x61 x69 x70 x71 (wrap64 (Int.tdiv x72 10)))) else (if x70 = true then (if (wrap64 (x61 - x69)) = x71 then (some true) else (some false)) else (some false))
def laws_FnDigitsWritten.l1 : Nat → List Int → Int → Int → Int → Int → Option (Bool)
 | 0, _, _, _, _, _ => none
 | k + 1, x1, x22, x49, x51, x52 => if x52 < x49 then (laws_FnDigitsWritten.l1 k x1 x22 x49 (wrap64 (Int.tdiv x51 10)) (wrap64 (x52 + 1))) else (if (Int.tmod x51 10) = x22 then (laws_FnDigitsWritten.j5 k x1) else (some false))
def laws_FnDigitsWritten.l0 : Nat → List Int → Int → List Int → Int → Int → Int → Int → Bool → Int → Int → Int → List Int → Int → Int → Option (Bool)
 | 0, _, _, _, _, _, _, _, _, _, _, _, _, _, _ => none
 | k + 1, x1, x5, x6, x10, x14, x18, x22, x23, x26, x27, x32, x241, x242, x243 => if x243 < x242 then (if 0 ≤ x243 then (if x243 < (x241.length : Int) then ((impl_CountDigit.f k x5 x243).bind fun bt292 => (if bt292.2 = true then (if bt292.1 = (rd x241 x243) then (if (rd x241 x243) < 0 then (some false) else (if x243 > 0 then (if 0 < (x6.length : Int) then (if (rd x241 x243) < (rd x6 0) then (some false) else (laws_FnDigitsWritten.l0 k x1 x5 x6 x10 x14 x18 x22 x23 x26 x27 (wrap64 (x32 + (wrap64 (x243 * (rd x241 x243))))) x241 x242 (wrap64 (x243 + 1)))) else (none)) else (laws_FnDigitsWritten.l0 k x1 x5 x6 x10 x14 x18 x22 x23 x26 x27 (wrap64 (x32 + (wrap64 (x243 * (rd x241 x243))))) x241 x242 (wrap64 (x243 + 1))))) else (some false)) else (some false))) else (none)) else (none)) else (if x32 = x14 then (if x5 > 0 then ((impl_DigitsWritten.f k (wrap64 (x5 - 1))).bind fun bt296 => ((impl_SumOfDigitsUpTo.f k (wrap64 (x5 - 1))).bind fun bt298 => ((impl_DigitSum.f k x5).bind fun bt300 => (if bt296.2 = true then (if (wrap64 (x10 - bt296.1)) < 1 then (some false) else (if (wrap64 (x10 - bt296.1)) > 13 then (some false) else (if bt298.2 = true then (if bt300.2 = true then (if (wrap64 (x14 - bt298.1)) = bt300.1 then (laws_FnDigitsWritten.j2 k x1 x5 x18 x22 x23 x26 x27) else (some false)) else (some false)) else (some false)))) else (some false))))) else (laws_FnDigitsWritten.j2 k x1 x5 x18 x22 x23 x26 x27)) else (some false))
def laws_FnDigitsWritten.j2 : Nat → List Int → Int → Int → Int → Bool → Int → Int → Option (Bool)
 | 0, _, _, _, _, _, _, _ => none
 | k + 1, x1, x5, x18, x22, x23, x26, x27 => (impl_DigitsWritten.f k x18).bind fun bt302 => (if bt302.2 = true then (if bt302.1 > x5 then (some false) else (if x18 < 1000000000000 then ((impl_DigitsWritten.f k (wrap64 (x18 + 1))).bind fun bt304 => (if bt304.2 = true then (if bt304.1 ≤ x5 then (some false) else (laws_FnDigitsWritten.j3 k x1 x5 x22 x23 x26 x27)) else (some false))) else (laws_FnDigitsWritten.j3 k x1 x5 x22 x23 x26 x27))) else (some false))
end
def laws_FnDigitsWritten.f (k : Nat) (l0 : List Int) (l1 : List Int) : Option (Bool) := (laws_big.f l0 l1).bind fun t255 => (if t255 = true then (some true) else ((spec_DrawDigitCounts.f l0).bind fun t256 => ((impl_DigitCounts.f k t256).bind fun bt257 => ((spec_DigitCounts.f k t256).bind fun bt261 => ((impl_DigitsWritten.f k t256).bind fun bt265 => ((spec_DigitsWritten.f k t256).bind fun bt267 => ((impl_SumOfDigitsUpTo.f k t256).bind fun bt269 => ((spec_SumOfDigitsUpTo.f k t256).bind fun bt271 => ((impl_LastWritten.f k t256).bind fun bt273 => ((spec_LastWritten.f k t256).bind fun bt275 => ((impl_DigitAtPlace.f k t256).bind fun bt277 => ((spec_DigitAtPlace.f k t256).bind fun bt279 => ((impl_NumberAtPlace.f k t256).bind fun bt281 => ((spec_NumberAtPlace.f k t256).bind fun bt284 => (if (bt257.2 != bt261.2) = true then (laws_FnDigitsWritten.j0 k l1 t256 bt257.1 bt257.2 bt265.1 bt269.1 bt273.1 bt277.1 bt277.2 bt281.1 bt281.2.1 true) else ((laws_eSame.f k bt257.1 bt261.1).bind fun t288 => (if t288 = true then (if (bt265.2 != bt267.2) = true then (laws_FnDigitsWritten.j0 k l1 t256 bt257.1 bt257.2 bt265.1 bt269.1 bt273.1 bt277.1 bt277.2 bt281.1 bt281.2.1 true) else (if bt265.1 = bt267.1 then (if (bt269.2 != bt271.2) = true then (laws_FnDigitsWritten.j0 k l1 t256 bt257.1 bt257.2 bt265.1 bt269.1 bt273.1 bt277.1 bt277.2 bt281.1 bt281.2.1 true) else (if bt269.1 = bt271.1 then (if (bt273.2 != bt275.2) = true then (laws_FnDigitsWritten.j0 k l1 t256 bt257.1 bt257.2 bt265.1 bt269.1 bt273.1 bt277.1 bt277.2 bt281.1 bt281.2.1 true) else (if bt273.1 = bt275.1 then (if (bt277.2 != bt279.2) = true then (laws_FnDigitsWritten.j0 k l1 t256 bt257.1 bt257.2 bt265.1 bt269.1 bt273.1 bt277.1 bt277.2 bt281.1 bt281.2.1 true) else (if bt277.1 = bt279.1 then (if (bt281.2.2 != bt284.2.2) = true then (laws_FnDigitsWritten.j0 k l1 t256 bt257.1 bt257.2 bt265.1 bt269.1 bt273.1 bt277.1 bt277.2 bt281.1 bt281.2.1 true) else (if bt281.1 = bt284.1 then (if bt281.2.1 = bt284.2.1 then (if (bt265.2 != bt257.2) = true then (laws_FnDigitsWritten.j0 k l1 t256 bt257.1 bt257.2 bt265.1 bt269.1 bt273.1 bt277.1 bt277.2 bt281.1 bt281.2.1 true) else (if (bt269.2 != bt257.2) = true then (laws_FnDigitsWritten.j0 k l1 t256 bt257.1 bt257.2 bt265.1 bt269.1 bt273.1 bt277.1 bt277.2 bt281.1 bt281.2.1 true) else (if (bt273.2 != bt257.2) = true then (laws_FnDigitsWritten.j0 k l1 t256 bt257.1 bt257.2 bt265.1 bt269.1 bt273.1 bt277.1 bt277.2 bt281.1 bt281.2.1 true) else (if (bt281.2.2 != bt277.2) = true then (laws_FnDigitsWritten.j0 k l1 t256 bt257.1 bt257.2 bt265.1 bt269.1 bt273.1 bt277.1 bt277.2 bt281.1 bt281.2.1 true) else (if bt277.2 = true then (laws_FnDigitsWritten.j0 k l1 t256 bt257.1 bt257.2 bt265.1 bt269.1 bt273.1 bt277.1 bt277.2 bt281.1 bt281.2.1 (!bt257.2)) else (laws_FnDigitsWritten.j0 k l1 t256 bt257.1 bt257.2 bt265.1 bt269.1 bt273.1 bt277.1 bt277.2 bt281.1 bt281.2.1 false)))))) else (laws_FnDigitsWritten.j0 k l1 t256 bt257.1 bt257.2 bt265.1 bt269.1 bt273.1 bt277.1 bt277.2 bt281.1 bt281.2.1 true)) else (laws_FnDigitsWritten.j0 k l1 t256 bt257.1 bt257.2 bt265.1 bt269.1 bt273.1 bt277.1 bt277.2 bt281.1 bt281.2.1 true))) else (laws_FnDigitsWritten.j0 k l1 t256 bt257.1 bt257.2 bt265.1 bt269.1 bt273.1 bt277.1 bt277.2 bt281.1 bt281.2.1 true))) else (laws_FnDigitsWritten.j0 k l1 t256 bt257.1 bt257.2 bt265.1 bt269.1 bt273.1 bt277.1 bt277.2 bt281.1 bt281.2.1 true))) else (laws_FnDigitsWritten.j0 k l1 t256 bt257.1 bt257.2 bt265.1 bt269.1 bt273.1 bt277.1 bt277.2 bt281.1 bt281.2.1 true))) else (laws_FnDigitsWritten.j0 k l1 t256 bt257.1 bt257.2 bt265.1 bt269.1 bt273.1 bt277.1 bt277.2 bt281.1 bt281.2.1 true))) else (laws_FnDigitsWritten.j0 k l1 t256 bt257.1 bt257.2 bt265.1 bt269.1 bt273.1 bt277.1 bt277.2 bt281.1 bt281.2.1 true))))))))))))))))))
theorem laws_FnDigitsWritten.j0_dead {k : Nat} {x1 : List Int} {x5 : Int} {x6 : List Int} {x7 : Bool} {x10 : Int} {x14 : Int} {x18 : Int} {x22 : Int} {x23 : Bool} {x26 : Int} {x27 : Int} {r : Bool} {P : Prop} (H : laws_FnDigitsWritten.j0 k x1 x5 x6 x7 x10 x14 x18 x22 x23 x26 x27 true = some r) (h : Aside0 (r = true)) : P := by
 cases k with
 | zero => exact none_ (by simp only [laws_FnDigitsWritten.j0]) H
 | succ k => exact dead_ (by simp only [laws_FnDigitsWritten.j0]; first | exact if_pos rfl | exact if_pos trivial) H h
set_option maxHeartbeats 64000000 in
set_option maxRecDepth 100000 in
theorem laws_FnDigitsWritten.calls (k : Nat) (A0 : Option Addr) (c0 : Nat) (l0 : List Int) (A1 : Option Addr) (c1 : Nat) (l1 : List Int) (r : Bool) (w : World) (hT : Shelf.TabOk w) (hr0 : Kd.C (Kd.int .u8) w A0 l0.length l0) (hc0 : l0.length ≤ c0) (hr1 : Kd.C (Kd.int .u8) w A1 l1.length l1) (hc1 : l1.length ≤ c1) (hr_ : Aside0 (r = true)) (h : laws_FnDigitsWritten.f k l0 l1 = some r) :
 Calls Tryd.prog 3 #[.slice A0 l0.length c0, .slice A1 l1.length c1] w fun e w' => e = .returned (.bool r) ∧ Below w.heap.size w w' := by
 have HR0 := Aside0.mk hr0
 have HC0 := Aside0.mk hc0
 clear hr0 hc0
 have HR1 := Aside0.mk hr1
 have HC1 := Aside0.mk hc1
 clear hr1 hc1
 have HT := Aside0.mk hT
 clear hT
 have HB := Aside0.mk (Below.refl w.heap.size w)
 have H : ((laws_big.f l0 l1).bind fun t255 => (if t255 = true then (some true) else ((spec_DrawDigitCounts.f l0).bind fun t256 => ((impl_DigitCounts.f k t256).bind fun bt257 => ((spec_DigitCounts.f k t256).bind fun bt261 => ((impl_DigitsWritten.f k t256).bind fun bt265 => ((spec_DigitsWritten.f k t256).bind fun bt267 => ((impl_SumOfDigitsUpTo.f k t256).bind fun bt269 => ((spec_SumOfDigitsUpTo.f k t256).bind fun bt271 => ((impl_LastWritten.f k t256).bind fun bt273 => ((spec_LastWritten.f k t256).bind fun bt275 => ((impl_DigitAtPlace.f k t256).bind fun bt277 => ((spec_DigitAtPlace.f k t256).bind fun bt279 => ((impl_NumberAtPlace.f k t256).bind fun bt281 => ((spec_NumberAtPlace.f k t256).bind fun bt284 => (if (bt257.2 != bt261.2) = true then (laws_FnDigitsWritten.j0 k l1 t256 bt257.1 bt257.2 bt265.1 bt269.1 bt273.1 bt277.1 bt277.2 bt281.1 bt281.2.1 true) else ((laws_eSame.f k bt257.1 bt261.1).bind fun t288 => (if t288 = true then (if (bt265.2 != bt267.2) = true then (laws_FnDigitsWritten.j0 k l1 t256 bt257.1 bt257.2 bt265.1 bt269.1 bt273.1 bt277.1 bt277.2 bt281.1 bt281.2.1 true) else (if bt265.1 = bt267.1 then (if (bt269.2 != bt271.2) = true then (laws_FnDigitsWritten.j0 k l1 t256 bt257.1 bt257.2 bt265.1 bt269.1 bt273.1 bt277.1 bt277.2 bt281.1 bt281.2.1 true) else (if bt269.1 = bt271.1 then (if (bt273.2 != bt275.2) = true then (laws_FnDigitsWritten.j0 k l1 t256 bt257.1 bt257.2 bt265.1 bt269.1 bt273.1 bt277.1 bt277.2 bt281.1 bt281.2.1 true) else (if bt273.1 = bt275.1 then (if (bt277.2 != bt279.2) = true then (laws_FnDigitsWritten.j0 k l1 t256 bt257.1 bt257.2 bt265.1 bt269.1 bt273.1 bt277.1 bt277.2 bt281.1 bt281.2.1 true) else (if bt277.1 = bt279.1 then (if (bt281.2.2 != bt284.2.2) = true then (laws_FnDigitsWritten.j0 k l1 t256 bt257.1 bt257.2 bt265.1 bt269.1 bt273.1 bt277.1 bt277.2 bt281.1 bt281.2.1 true) else (if bt281.1 = bt284.1 then (if bt281.2.1 = bt284.2.1 then (if (bt265.2 != bt257.2) = true then (laws_FnDigitsWritten.j0 k l1 t256 bt257.1 bt257.2 bt265.1 bt269.1 bt273.1 bt277.1 bt277.2 bt281.1 bt281.2.1 true) else (if (bt269.2 != bt257.2) = true then (laws_FnDigitsWritten.j0 k l1 t256 bt257.1 bt257.2 bt265.1 bt269.1 bt273.1 bt277.1 bt277.2 bt281.1 bt281.2.1 true) else (if (bt273.2 != bt257.2) = true then (laws_FnDigitsWritten.j0 k l1 t256 bt257.1 bt257.2 bt265.1 bt269.1 bt273.1 bt277.1 bt277.2 bt281.1 bt281.2.1 true) else (if (bt281.2.2 != bt277.2) = true then (laws_FnDigitsWritten.j0 k l1 t256 bt257.1 bt257.2 bt265.1 bt269.1 bt273.1 bt277.1 bt277.2 bt281.1 bt281.2.1 true) else (if bt277.2 = true then (laws_FnDigitsWritten.j0 k l1 t256 bt257.1 bt257.2 bt265.1 bt269.1 bt273.1 bt277.1 bt277.2 bt281.1 bt281.2.1 (!bt257.2)) else (laws_FnDigitsWritten.j0 k l1 t256 bt257.1 bt257.2 bt265.1 bt269.1 bt273.1 bt277.1 bt277.2 bt281.1 bt281.2.1 false)))))) else (laws_FnDigitsWritten.j0 k l1 t256 bt257.1 bt257.2 bt265.1 bt269.1 bt273.1 bt277.1 bt277.2 bt281.1 bt281.2.1 true)) else (laws_FnDigitsWritten.j0 k l1 t256 bt257.1 bt257.2 bt265.1 bt269.1 bt273.1 bt277.1 bt277.2 bt281.1 bt281.2.1 true))) else (laws_FnDigitsWritten.j0 k l1 t256 bt257.1 bt257.2 bt265.1 bt269.1 bt273.1 bt277.1 bt277.2 bt281.1 bt281.2.1 true))) else (laws_FnDigitsWritten.j0 k l1 t256 bt257.1 bt257.2 bt265.1 bt269.1 bt273.1 bt277.1 bt277.2 bt281.1 bt281.2.1 true))) else (laws_FnDigitsWritten.j0 k l1 t256 bt257.1 bt257.2 bt265.1 bt269.1 bt273.1 bt277.1 bt277.2 bt281.1 bt281.2.1 true))) else (laws_FnDigitsWritten.j0 k l1 t256 bt257.1 bt257.2 bt265.1 bt269.1 bt273.1 bt277.1 bt277.2 bt281.1 bt281.2.1 true))) else (laws_FnDigitsWritten.j0 k l1 t256 bt257.1 bt257.2 bt265.1 bt269.1 bt273.1 bt277.1 bt277.2 bt281.1 bt281.2.1 true))))))))))))))))))) = some r := h
 clear h
 replace H := Option.bind_eq_some_iff.mp H
 obtain ⟨t255, A30, H⟩ := H
 have A3 := Aside0.mk A30
 clear A30
 by_cases c4 : t255 = true
 · subst c4
   rw [if_pos rfl] at H
   as_aux_lemma =>
    obtain rfl := Option.some.inj H
    go_enter Tryd.func3, Tryd.ntmps3
    go_wp2_with (first | ((with_reducible refine gate_callee (f := 5) rfl ?_); refine goesL_ (some 75) rfl rfl Tryd.func5 (by kernel_rfl) rfl #[.slice A0 l0.length c0, .slice A1 l1.length c1] rfl z6_0_ ?_; (with_reducible refine (laws_big.calls _ _ l0 _ _ l1 true _ ?side1 ?side2 ?side3 ?side4 A3.out).mono ?_); (case side1 => repeat (first | exact HR0.out | (with_reducible refine Kd.C_alloc ?_ _) | (with_reducible refine Kd.C_drewN ?_ _) | (with_reducible refine Kd.C_drew ?_))); (case side2 => exact HC0.out); (case side3 => repeat (first | exact HR1.out | (with_reducible refine Kd.C_alloc ?_ _) | (with_reducible refine Kd.C_drewN ?_ _) | (with_reducible refine Kd.C_drew ?_))); (case side4 => exact HC1.out); rintro e w' ⟨rfl, ⟨nd, rfl⟩⟩; refine ⟨_, rfl, ?_⟩))
    go_ret
    exact ⟨by first | rfl | (simp [errW_none, errW_some] <;> rfl) | (simp [*, errW_none, errW_some] <;> rfl), by repeat (first | (with_reducible first | exact HB.out | apply below_alloc | apply pw_below_drewN | apply below_drew1) | exact HB.out)⟩
 replace c4 := Bool.eq_false_iff.mpr c4
 subst c4
 rw [if_neg (show ¬ (false = true) by decide)] at H
 as_aux_lemma =>
 replace H := Option.bind_eq_some_iff.mp H
 obtain ⟨t256, A50, H⟩ := H
 have A5 := Aside0.mk A50
 clear A50
 replace H := Option.bind_eq_some_iff.mp H
 obtain ⟨⟨t257, t258⟩, A60, H⟩ := H
 dsimp only at H
 have A6 := Aside0.mk A60
 clear A60
 replace H := Option.bind_eq_some_iff.mp H
 obtain ⟨⟨t261, t262⟩, A70, H⟩ := H
 dsimp only at H
 have A7 := Aside0.mk A70
 clear A70
 replace H := Option.bind_eq_some_iff.mp H
 obtain ⟨⟨t265, t266⟩, A80, H⟩ := H
 dsimp only at H
 have A8 := Aside0.mk A80
 clear A80
 replace H := Option.bind_eq_some_iff.mp H
 obtain ⟨⟨t267, t268⟩, A90, H⟩ := H
 dsimp only at H
 have A9 := Aside0.mk A90
 clear A90
 replace H := Option.bind_eq_some_iff.mp H
 obtain ⟨⟨t269, t270⟩, A100, H⟩ := H
 dsimp only at H
 have A10 := Aside0.mk A100
 clear A100
 as_aux_lemma =>
 replace H := Option.bind_eq_some_iff.mp H
 obtain ⟨⟨t271, t272⟩, A110, H⟩ := H
 dsimp only at H
 have A11 := Aside0.mk A110
 clear A110
 replace H := Option.bind_eq_some_iff.mp H
 obtain ⟨⟨t273, t274⟩, A120, H⟩ := H
 dsimp only at H
 have A12 := Aside0.mk A120
 clear A120
 replace H := Option.bind_eq_some_iff.mp H
 obtain ⟨⟨t275, t276⟩, A130, H⟩ := H
 dsimp only at H
 have A13 := Aside0.mk A130
 clear A130
 replace H := Option.bind_eq_some_iff.mp H
 obtain ⟨⟨t277, t278⟩, A140, H⟩ := H
 dsimp only at H
 have A14 := Aside0.mk A140
 clear A140
 replace H := Option.bind_eq_some_iff.mp H
 obtain ⟨⟨t279, t280⟩, A150, H⟩ := H
 dsimp only at H
 have A15 := Aside0.mk A150
 clear A150
 as_aux_lemma =>
 replace H := Option.bind_eq_some_iff.mp H
 obtain ⟨⟨t281, t282, t283⟩, A160, H⟩ := H
 dsimp only at H
 have A16 := Aside0.mk A160
 clear A160
 replace H := Option.bind_eq_some_iff.mp H
 obtain ⟨⟨t284, t285, t286⟩, A170, H⟩ := H
 dsimp only at H
 have A17 := Aside0.mk A170
 clear A170
 have HC18 := Aside0.mk H
 clear H
 go_enter Tryd.func3, Tryd.ntmps3
 go_upto_region 16 with (first | ((with_reducible refine gate_callee (f := 5) rfl ?_); refine goesL_ (some 75) rfl rfl Tryd.func5 (by kernel_rfl) rfl #[.slice A0 l0.length c0, .slice A1 l1.length c1] rfl z6_0_ ?_; (with_reducible refine (laws_big.calls _ _ l0 _ _ l1 false _ ?side1 ?side2 ?side3 ?side4 A3.out).mono ?_); (case side1 => repeat (first | exact HR0.out | (with_reducible refine Kd.C_alloc ?_ _) | (with_reducible refine Kd.C_drewN ?_ _) | (with_reducible refine Kd.C_drew ?_))); (case side2 => exact HC0.out); (case side3 => repeat (first | exact HR1.out | (with_reducible refine Kd.C_alloc ?_ _) | (with_reducible refine Kd.C_drewN ?_ _) | (with_reducible refine Kd.C_drew ?_))); (case side4 => exact HC1.out); rintro e w' ⟨rfl, ⟨nd, rfl⟩⟩; refine ⟨_, rfl, ?_⟩) | ((with_reducible refine gate_callee (f := 6) rfl ?_); refine goesL_ (some 77) rfl rfl Tryd.func6 (by kernel_rfl) rfl #[.slice A0 l0.length c0] rfl z6_0_ ?_; (with_reducible refine (spec_DrawDigitCounts.calls _ _ l0 t256 _ ?side1 ?side2 A5.out).mono ?_); (case side1 => repeat (first | exact HR0.out | (with_reducible refine Kd.C_alloc ?_ _) | (with_reducible refine Kd.C_drewN ?_ _) | (with_reducible refine Kd.C_drew ?_))); (case side2 => exact HC0.out); rintro e w19 ⟨rfl, hb⟩; refine ⟨_, rfl, ?_⟩; have n0_ := Aside0.mk (below_step z6_1_ hb); clear HB; have HB := n0_; clear n0_; (try clear hb); (try clear hb2); (try clear hk); (try clear hi)) | ((with_reducible refine gate_callee (f := 7) rfl ?_); refine goesL_ (some 80) rfl rfl Tryd.func7 (by kernel_rfl) rfl #[.int .i64 t256] rfl z6_0_ ?_; (with_reducible refine (impl_DigitCounts.calls k t256 t257 t258 _ A6.out).mono ?_); rintro e w20 ⟨v259, rfl, ho0, hb⟩; refine ⟨_, rfl, ?_⟩; have n0_ := Aside0.mk (Kd.R_lower ho0 (below_size z6_1_)); have n1_ := Aside0.mk (below_step z6_1_ hb); clear HB; have HO260 := n0_; have HB := n1_; clear n0_ n1_; (try clear hb); (try clear hb2); (try clear hk); (try clear hi); (try clear ho0)) | ((with_reducible refine gate_callee (f := 8) rfl ?_); refine goesL_ (some 85) rfl rfl Tryd.func8 (by kernel_rfl) rfl #[.int .i64 t256] rfl z6_0_ ?_; (with_reducible refine (spec_DigitCounts.calls k t256 t261 t262 _ A7.out).mono ?_); rintro e w21 ⟨v263, rfl, ho0, hb⟩; refine ⟨_, rfl, ?_⟩; have n0_ := Aside0.mk (Kd.R_elder' z6_3_ (Kd.R_base ho0) hb); have n1_ := Aside0.mk (Kd.R_lower (Kd.R_new' ho0 (Kd.R_lt z6_3_)) (below_size z6_1_)); have n2_ := Aside0.mk (below_step z6_1_ hb); clear HO260; clear HB; have HO260 := n0_; have HO264 := n1_; have HB := n2_; clear n0_ n1_ n2_; (try clear hb); (try clear hb2); (try clear hk); (try clear hi); (try clear ho0)) | ((with_reducible refine gate_callee (f := 9) rfl ?_); refine goesL_ (some 90) rfl rfl Tryd.func9 (by kernel_rfl) rfl #[.int .i64 t256] rfl z6_0_ ?_; (with_reducible refine (impl_DigitsWritten.calls k t256 t265 t266 _ A8.out).mono ?_); rintro e w22 ⟨rfl, hb⟩; refine ⟨_, rfl, ?_⟩; have n0_ := Aside0.mk (Kd.R_below z6_3_ hb); have n1_ := Aside0.mk (Kd.R_below z6_4_ hb); have n2_ := Aside0.mk (below_step z6_1_ hb); clear HO260; clear HO264; clear HB; have HO260 := n0_; have HO264 := n1_; have HB := n2_; clear n0_ n1_ n2_; (try clear hb); (try clear hb2); (try clear hk); (try clear hi)) | ((with_reducible refine gate_callee (f := 10) rfl ?_); refine goesL_ (some 95) rfl rfl Tryd.func10 (by kernel_rfl) rfl #[.int .i64 t256] rfl z6_0_ ?_; (with_reducible refine (spec_DigitsWritten.calls k t256 t267 t268 _ A9.out).mono ?_); rintro e w' ⟨rfl, ⟨nd, rfl⟩⟩; refine ⟨_, rfl, ?_⟩) | ((with_reducible refine gate_callee (f := 11) rfl ?_); refine goesL_ (some 100) rfl rfl Tryd.func11 (by kernel_rfl) rfl #[.int .i64 t256] rfl z6_0_ ?_; (with_reducible refine (impl_SumOfDigitsUpTo.calls k t256 t269 t270 _ A10.out).mono ?_); rintro e w23 ⟨rfl, hb⟩; refine ⟨_, rfl, ?_⟩; have n0_ := Aside0.mk (Kd.R_below z6_3_ hb); have n1_ := Aside0.mk (Kd.R_below z6_4_ hb); have n2_ := Aside0.mk (below_step z6_1_ hb); clear HO260; clear HO264; clear HB; have HO260 := n0_; have HO264 := n1_; have HB := n2_; clear n0_ n1_ n2_; (try clear hb); (try clear hb2); (try clear hk); (try clear hi)) | ((with_reducible refine gate_callee (f := 12) rfl ?_); refine goesL_ (some 105) rfl rfl Tryd.func12 (by kernel_rfl) rfl #[.int .i64 t256] rfl z6_0_ ?_; (with_reducible refine (spec_SumOfDigitsUpTo.calls k t256 t271 t272 _ A11.out).mono ?_); rintro e w' ⟨rfl, ⟨nd, rfl⟩⟩; refine ⟨_, rfl, ?_⟩) | ((with_reducible refine gate_callee (f := 13) rfl ?_); refine goesL_ (some 110) rfl rfl Tryd.func13 (by kernel_rfl) rfl #[.int .i64 t256] rfl z6_0_ ?_; (with_reducible refine (impl_LastWritten.calls k t256 t273 t274 _ A12.out).mono ?_); rintro e w24 ⟨rfl, hb⟩; refine ⟨_, rfl, ?_⟩; have n0_ := Aside0.mk (Kd.R_below z6_3_ hb); have n1_ := Aside0.mk (Kd.R_below z6_4_ hb); have n2_ := Aside0.mk (below_step z6_1_ hb); clear HO260; clear HO264; clear HB; have HO260 := n0_; have HO264 := n1_; have HB := n2_; clear n0_ n1_ n2_; (try clear hb); (try clear hb2); (try clear hk); (try clear hi)) | ((with_reducible refine gate_callee (f := 14) rfl ?_); refine goesL_ (some 115) rfl rfl Tryd.func14 (by kernel_rfl) rfl #[.int .i64 t256] rfl z6_0_ ?_; (with_reducible refine (spec_LastWritten.calls k t256 t275 t276 _ A13.out).mono ?_); rintro e w' ⟨rfl, ⟨nd, rfl⟩⟩; refine ⟨_, rfl, ?_⟩) | ((with_reducible refine gate_callee (f := 15) rfl ?_); refine goesL_ (some 120) rfl rfl Tryd.func15 (by kernel_rfl) rfl #[.int .i64 t256] rfl z6_0_ ?_; (with_reducible refine (impl_DigitAtPlace.calls k t256 t277 t278 _ ?side1 A14.out).mono ?_); (case side1 => exact Shelf.TabOk.below HT.out z6_1_); rintro e w25 ⟨rfl, hb⟩; refine ⟨_, rfl, ?_⟩; have n0_ := Aside0.mk (Kd.R_below z6_3_ hb); have n1_ := Aside0.mk (Kd.R_below z6_4_ hb); have n2_ := Aside0.mk (below_step z6_1_ hb); clear HO260; clear HO264; clear HB; have HO260 := n0_; have HO264 := n1_; have HB := n2_; clear n0_ n1_ n2_; (try clear hb); (try clear hb2); (try clear hk); (try clear hi)) | ((with_reducible refine gate_callee (f := 16) rfl ?_); refine goesL_ (some 125) rfl rfl Tryd.func16 (by kernel_rfl) rfl #[.int .i64 t256] rfl z6_0_ ?_; (with_reducible refine (spec_DigitAtPlace.calls k t256 t279 t280 _ A15.out).mono ?_); rintro e w26 ⟨rfl, hb⟩; refine ⟨_, rfl, ?_⟩; have n0_ := Aside0.mk (Kd.R_below z6_3_ hb); have n1_ := Aside0.mk (Kd.R_below z6_4_ hb); have n2_ := Aside0.mk (below_step z6_1_ hb); clear HO260; clear HO264; clear HB; have HO260 := n0_; have HO264 := n1_; have HB := n2_; clear n0_ n1_ n2_; (try clear hb); (try clear hb2); (try clear hk); (try clear hi)) | ((with_reducible refine gate_callee (f := 17) rfl ?_); refine goesL_ (some 130) rfl rfl Tryd.func17 (by kernel_rfl) rfl #[.int .i64 t256] rfl z6_0_ ?_; (with_reducible refine (impl_NumberAtPlace.calls k t256 t281 t282 t283 _ A16.out).mono ?_); rintro e w27 ⟨rfl, hb⟩; refine ⟨_, rfl, ?_⟩; have n0_ := Aside0.mk (Kd.R_below z6_3_ hb); have n1_ := Aside0.mk (Kd.R_below z6_4_ hb); have n2_ := Aside0.mk (below_step z6_1_ hb); clear HO260; clear HO264; clear HB; have HO260 := n0_; have HO264 := n1_; have HB := n2_; clear n0_ n1_ n2_; (try clear hb); (try clear hb2); (try clear hk); (try clear hi)) | ((with_reducible refine gate_callee (f := 18) rfl ?_); refine goesL_ (some 136) rfl rfl Tryd.func18 (by kernel_rfl) rfl #[.int .i64 t256] rfl z6_0_ ?_; (with_reducible refine (spec_NumberAtPlace.calls k t256 t284 t285 t286 _ A17.out).mono ?_); rintro e w28 ⟨rfl, hb⟩; refine ⟨_, rfl, ?_⟩; have n0_ := Aside0.mk (Kd.R_below z6_3_ hb); have n1_ := Aside0.mk (Kd.R_below z6_4_ hb); have n2_ := Aside0.mk (below_step z6_1_ hb); clear HO260; clear HO264; clear HB; have HO260 := n0_; have HO264 := n1_; have HB := n2_; clear n0_ n1_ n2_; (try clear hb); (try clear hb2); (try clear hk); (try clear hi)))
 (try simp only [Act.put, List.setIfInBounds_toArray, List.set_cons_zero, List.set_cons_succ])
 go_cut [230] from 73 to 230 (fun v230 wc => ∃ (kq : Nat) (x230_17 : Bool), v230 = .bool x230_17 ∧ Aside0 (laws_FnDigitsWritten.j0 kq l1 t256 t257 t258 t265 t269 t273 t277 t278 t281 t282 x230_17 = some r) ∧ Aside0 (kq ≤ k) ∧ Aside0 (Kd.R (Kd.int .i64) 3 wc w.heap.size (fun _ => True) v259 t257) ∧ Aside0 (Below w.heap.size w wc))
 case first =>
  as_aux_lemma =>
  have H := HC18.out
  clear HC18
  by_cases c29 : (t258 != t262) = true
  · exact laws_FnDigitsWritten.j0_dead ((if_pos c29).symm.trans H) hr_
  rw [if_neg c29] at H
  have c29b0 : (t258 != t262) = false := by simpa using c29
  (try (have c29b1 : decide (t258 = t262) = true := by simpa using c29))
  (try (have c29b2 : (t258 == t262) = true := by simpa using c29))
  clear c29
  (first | rw [c29b0] | (simp only [i64_w, i32_w]; rw [c29b0]) | skip)
  replace H := Option.bind_eq_some_iff.mp H
  obtain ⟨t288, A300, H⟩ := H
  have A30 := Aside0.mk A300
  clear A300
  by_cases c31 : t288 = true
  · subst c31
    rw [if_pos rfl] at H
    by_cases c32 : (t266 != t268) = true
    · exact laws_FnDigitsWritten.j0_dead ((if_pos c32).symm.trans H) hr_
    rw [if_neg c32] at H
    have c32b0 : (t266 != t268) = false := by simpa using c32
    (try (have c32b1 : decide (t266 = t268) = true := by simpa using c32))
    (try (have c32b2 : (t266 == t268) = true := by simpa using c32))
    clear c32
    by_cases c33 : t265 = t267
    rotate_left
    · exact laws_FnDigitsWritten.j0_dead ((if_neg c33).symm.trans H) hr_
    rw [if_pos c33] at H
    have c33b0 : (t265 == t267) = true := beq_iff_eq.mpr c33
    have c33b1 : (t265 != t267) = false := bne_eq_false_iff_eq.mpr c33
    clear c33
    by_cases c34 : (t270 != t272) = true
    · exact laws_FnDigitsWritten.j0_dead ((if_pos c34).symm.trans H) hr_
    rw [if_neg c34] at H
    have c34b0 : (t270 != t272) = false := by simpa using c34
    (try (have c34b1 : decide (t270 = t272) = true := by simpa using c34))
    (try (have c34b2 : (t270 == t272) = true := by simpa using c34))
    clear c34
    by_cases c35 : t269 = t271
    rotate_left
    · exact laws_FnDigitsWritten.j0_dead ((if_neg c35).symm.trans H) hr_
    rw [if_pos c35] at H
    have c35b0 : (t269 == t271) = true := beq_iff_eq.mpr c35
    have c35b1 : (t269 != t271) = false := bne_eq_false_iff_eq.mpr c35
    clear c35
    as_aux_lemma =>
    by_cases c36 : (t274 != t276) = true
    · exact laws_FnDigitsWritten.j0_dead ((if_pos c36).symm.trans H) hr_
    rw [if_neg c36] at H
    have c36b0 : (t274 != t276) = false := by simpa using c36
    (try (have c36b1 : decide (t274 = t276) = true := by simpa using c36))
    (try (have c36b2 : (t274 == t276) = true := by simpa using c36))
    clear c36
    by_cases c37 : t273 = t275
    rotate_left
    · exact laws_FnDigitsWritten.j0_dead ((if_neg c37).symm.trans H) hr_
    rw [if_pos c37] at H
    have c37b0 : (t273 == t275) = true := beq_iff_eq.mpr c37
    have c37b1 : (t273 != t275) = false := bne_eq_false_iff_eq.mpr c37
    clear c37
    by_cases c38 : (t278 != t280) = true
    · exact laws_FnDigitsWritten.j0_dead ((if_pos c38).symm.trans H) hr_
    rw [if_neg c38] at H
    have c38b0 : (t278 != t280) = false := by simpa using c38
    (try (have c38b1 : decide (t278 = t280) = true := by simpa using c38))
    (try (have c38b2 : (t278 == t280) = true := by simpa using c38))
    clear c38
    by_cases c39 : t277 = t279
    rotate_left
    · exact laws_FnDigitsWritten.j0_dead ((if_neg c39).symm.trans H) hr_
    rw [if_pos c39] at H
    have c39b0 : (t277 == t279) = true := beq_iff_eq.mpr c39
    have c39b1 : (t277 != t279) = false := bne_eq_false_iff_eq.mpr c39
    clear c39
    as_aux_lemma =>
    by_cases c40 : (t283 != t286) = true
    · exact laws_FnDigitsWritten.j0_dead ((if_pos c40).symm.trans H) hr_
    rw [if_neg c40] at H
    have c40b0 : (t283 != t286) = false := by simpa using c40
    (try (have c40b1 : decide (t283 = t286) = true := by simpa using c40))
    (try (have c40b2 : (t283 == t286) = true := by simpa using c40))
    clear c40
    by_cases c41 : t281 = t284
    rotate_left
    · exact laws_FnDigitsWritten.j0_dead ((if_neg c41).symm.trans H) hr_
    rw [if_pos c41] at H
    have c41b0 : (t281 == t284) = true := beq_iff_eq.mpr c41
    have c41b1 : (t281 != t284) = false := bne_eq_false_iff_eq.mpr c41
    clear c41
    by_cases c42 : t282 = t285
    rotate_left
    · exact laws_FnDigitsWritten.j0_dead ((if_neg c42).symm.trans H) hr_
    rw [if_pos c42] at H
    have c42b0 : (t282 == t285) = true := beq_iff_eq.mpr c42
    have c42b1 : (t282 != t285) = false := bne_eq_false_iff_eq.mpr c42
    clear c42
    by_cases c43 : (t266 != t258) = true
    · exact laws_FnDigitsWritten.j0_dead ((if_pos c43).symm.trans H) hr_
    rw [if_neg c43] at H
    have c43b0 : (t266 != t258) = false := by simpa using c43
    (try (have c43b1 : decide (t266 = t258) = true := by simpa using c43))
    (try (have c43b2 : (t266 == t258) = true := by simpa using c43))
    clear c43
    as_aux_lemma =>
    by_cases c44 : (t270 != t258) = true
    · exact laws_FnDigitsWritten.j0_dead ((if_pos c44).symm.trans H) hr_
    rw [if_neg c44] at H
    have c44b0 : (t270 != t258) = false := by simpa using c44
    (try (have c44b1 : decide (t270 = t258) = true := by simpa using c44))
    (try (have c44b2 : (t270 == t258) = true := by simpa using c44))
    clear c44
    by_cases c45 : (t274 != t258) = true
    · exact laws_FnDigitsWritten.j0_dead ((if_pos c45).symm.trans H) hr_
    rw [if_neg c45] at H
    have c45b0 : (t274 != t258) = false := by simpa using c45
    (try (have c45b1 : decide (t274 = t258) = true := by simpa using c45))
    (try (have c45b2 : (t274 == t258) = true := by simpa using c45))
    clear c45
    by_cases c46 : (t283 != t278) = true
    · exact laws_FnDigitsWritten.j0_dead ((if_pos c46).symm.trans H) hr_
    rw [if_neg c46] at H
    have c46b0 : (t283 != t278) = false := by simpa using c46
    (try (have c46b1 : decide (t283 = t278) = true := by simpa using c46))
    (try (have c46b2 : (t283 == t278) = true := by simpa using c46))
    clear c46
    by_cases c47 : t278 = true
    · subst c47
      rw [if_pos rfl] at H
      as_aux_lemma =>
       have H' := Aside0.mk H
       clear H
       obtain ⟨Ao48, co48, eo48⟩ := Kd.R_slice HO260.out
       subst eo48
       obtain ⟨Ao49, co49, eo49⟩ := Kd.R_slice HO264.out
       subst eo49
       go_wp2_with (first | (go_at_call 19; (with_reducible refine (laws_eSame.calls k _ _ t257 _ _ t261 true _ ?side1 ?side2 ?side3 ?side4 A30.out).mono ?_); (case side1 => repeat (first | exact (Kd.R_reads' HO260.out).2.2 | (with_reducible refine Kd.C_alloc ?_ _) | (with_reducible refine Kd.C_drewN ?_ _) | (with_reducible refine Kd.C_drew ?_))); (case side2 => exact (Kd.R_reads' HO260.out).2.1); (case side3 => repeat (first | exact (Kd.R_reads' HO264.out).2.2 | (with_reducible refine Kd.C_alloc ?_ _) | (with_reducible refine Kd.C_drewN ?_ _) | (with_reducible refine Kd.C_drew ?_))); (case side4 => exact (Kd.R_reads' HO264.out).2.1); rintro e w' ⟨rfl, ⟨nd, rfl⟩⟩))
       go_meet
       case rel => exact ⟨_, (!t258), z6_2_, H', ⟨by first | omega | exact Nat.le_refl _⟩, ⟨by (with_reducible repeat (first | apply Kd.R_alloc | apply Kd.R_drewN | apply Kd.R_drew)); exact Kd.R_mono HO260.out (fun _ hk => trivial)⟩, ⟨by repeat (first | (with_reducible first | exact HB.out | apply below_alloc | apply pw_below_drewN | apply below_drew1) | exact HB.out)⟩⟩
    replace c47 := Bool.eq_false_iff.mpr c47
    subst c47
    rw [if_neg (show ¬ (false = true) by decide)] at H
    as_aux_lemma =>
     have H' := Aside0.mk H
     clear H
     obtain ⟨Ao50, co50, eo50⟩ := Kd.R_slice HO260.out
     subst eo50
     obtain ⟨Ao51, co51, eo51⟩ := Kd.R_slice HO264.out
     subst eo51
     go_wp2_with (first | (go_at_call 19; (with_reducible refine (laws_eSame.calls k _ _ t257 _ _ t261 true _ ?side1 ?side2 ?side3 ?side4 A30.out).mono ?_); (case side1 => repeat (first | exact (Kd.R_reads' HO260.out).2.2 | (with_reducible refine Kd.C_alloc ?_ _) | (with_reducible refine Kd.C_drewN ?_ _) | (with_reducible refine Kd.C_drew ?_))); (case side2 => exact (Kd.R_reads' HO260.out).2.1); (case side3 => repeat (first | exact (Kd.R_reads' HO264.out).2.2 | (with_reducible refine Kd.C_alloc ?_ _) | (with_reducible refine Kd.C_drewN ?_ _) | (with_reducible refine Kd.C_drew ?_))); (case side4 => exact (Kd.R_reads' HO264.out).2.1); rintro e w' ⟨rfl, ⟨nd, rfl⟩⟩))
     go_meet
     case rel => exact ⟨_, (false), z6_2_, H', ⟨by first | omega | exact Nat.le_refl _⟩, ⟨by (with_reducible repeat (first | apply Kd.R_alloc | apply Kd.R_drewN | apply Kd.R_drew)); exact Kd.R_mono HO260.out (fun _ hk => trivial)⟩, ⟨by repeat (first | (with_reducible first | exact HB.out | apply below_alloc | apply pw_below_drewN | apply below_drew1) | exact HB.out)⟩⟩
  replace c31 := Bool.eq_false_iff.mpr c31
  subst c31
  rw [if_neg (show ¬ (false = true) by decide)] at H
  as_aux_lemma =>
   exact laws_FnDigitsWritten.j0_dead H hr_
 case rest =>
  as_aux_lemma =>
  clear HC18
  (try clear c1);(try clear c2);(try clear p2);(try clear c3);(try clear c4);(try clear c5);(try clear c6);(try clear c7);(try clear c8);(try clear c9);(try clear c10);(try clear c11);(try clear c12);(try clear c13);(try clear c14);(try clear c15);(try clear c16);(try clear c17);(try clear c18);(try clear c29);(try clear c29b0);(try clear c29b1);(try clear c29b2);(try clear c31);(try clear c32);(try clear c32b0);(try clear c32b1);(try clear c32b2);(try clear c33);(try clear c33b0);(try clear c33b1);(try clear c34);(try clear c34b0);(try clear c34b1);(try clear c34b2);(try clear c35);(try clear c35b0);(try clear c35b1);(try clear c36);(try clear c36b0);(try clear c36b1);(try clear c36b2);(try clear c37);(try clear c37b0);(try clear c37b1);(try clear c38);(try clear c38b0);(try clear c38b1);(try clear c38b2);(try clear c39);(try clear c39b0);(try clear c39b1);(try clear c40);(try clear c40b0);(try clear c40b1);(try clear c40b2);(try clear c41);(try clear c41b0);(try clear c41b1);(try clear c42);(try clear c42b0);(try clear c42b1);(try clear c43);(try clear c43b0);(try clear c43b1);(try clear c43b2);(try clear c44);(try clear c44b0);(try clear c44b1);(try clear c44b2);(try clear c45);(try clear c45b0);(try clear c45b1);(try clear c45b2);(try clear c46);(try clear c46b0);(try clear c46b1);(try clear c46b2);(try clear c47)
  obtain ⟨kq, x230_17, rfl, HA, HJ17, HO_6, HB⟩ := hcut
  cases kq with
  | zero => exact absurd HA.out (by simp [laws_FnDigitsWritten.j0])
  | succ kj17 =>
   have H := HA.out
   clear HA
   simp only [laws_FnDigitsWritten.j0] at H
   by_cases c54 : x230_17 = true
   · subst c54
     rw [if_pos rfl] at H
     as_aux_lemma =>
      exact Bool.noConfusion ((Option.some.inj H).trans hr_.out)
   replace c54 := Bool.eq_false_iff.mpr c54
   subst c54
   rw [if_neg (show ¬ (false = true) by decide)] at H
   have HC55 := Aside0.mk H
   clear H
   go_upto_if 231 with (fail)
   go_cut [] from 231 to 359 (fun wc => ∃ (kq : Nat), Aside0 (laws_FnDigitsWritten.j3 kq l1 t256 t277 t278 t281 t282 = some r) ∧ Aside0 (kq ≤ kj17) ∧ Aside0 (Below w.heap.size w wc))
   case first =>
    as_aux_lemma =>
    have H := HC55.out
    clear HC55
    by_cases c56 : t258 = true
    · subst c56
      rw [if_pos rfl] at H
      by_cases c57 : (t257.length : Int) = 10
      rotate_left
      · exact dead_ (if_neg c57) H hr_
      rw [if_pos c57] at H
      have c57b0 : ((t257.length : Int) == 10) = true := beq_iff_eq.mpr c57
      have c57b1 : ((t257.length : Int) != 10) = false := bne_eq_false_iff_eq.mpr c57
      clear c57
      (first | rw [c57b0] | (simp only [i64_w, i32_w]; rw [c57b0]) | skip)
      replace H := Option.bind_eq_some_iff.mp H
      obtain ⟨t290, A580, H⟩ := H
      have A58 := Aside0.mk A580
      clear A580
      by_cases c59 : t290 = t265
      rotate_left
      · exact dead_ (if_neg c59) H hr_
      rw [if_pos c59] at H
      have c59b0 : (t290 == t265) = true := beq_iff_eq.mpr c59
      have c59b1 : (t290 != t265) = false := bne_eq_false_iff_eq.mpr c59
      clear c59
      have H' := Aside0.mk H
      clear H
      obtain ⟨Ao60, co60, eo60⟩ := Kd.R_slice HO_6.out
      subst eo60
      go_wp2_with (first | (go_at_call 20; (with_reducible refine (laws_eSum.calls kj17 _ _ t257 t290 _ ?side1 ?side2 A58.out).mono ?_); (case side1 => repeat (first | exact (Kd.R_reads' HO_6.out).2.2 | (with_reducible refine Kd.C_alloc ?_ _) | (with_reducible refine Kd.C_drewN ?_ _) | (with_reducible refine Kd.C_drew ?_))); (case side2 => exact (Kd.R_reads' HO_6.out).2.1); rintro e w' ⟨rfl, ⟨nd, rfl⟩⟩))
      go_loopg [32, 243] kj17 (fun kq v32 v243 w' => ∃ (x32_2 : Int) (x243_2 : Int), v32 = .int .i64 x32_2 ∧ v243 = .int .i64 x243_2 ∧ Aside0 (laws_FnDigitsWritten.l0 kq l1 t256 t257 t265 t269 t273 t277 t278 t281 t282 x32_2 t257 (t257.length : Int) x243_2 = some r) ∧ Aside0 (kq ≤ kj17) ∧ Aside0 (Kd.R (Kd.int .i64) 3 w' w.heap.size (fun _ => True) (.slice Ao60 t257.length co60) t257) ∧ Aside0 (Kd.R (Kd.int .i64) 3 w' w.heap.size (fun _ => True) (.slice Ao60 t257.length co60) t257) ∧ Aside0 (Below w.heap.size w w'))
      case atStart => exact ⟨(0), (0), z6_2_, z6_2_, H', ⟨Nat.le_refl _⟩, ⟨by (with_reducible repeat (first | apply Kd.R_alloc | apply Kd.R_drewN | apply Kd.R_drew)); exact HO_6.out⟩, ⟨by (with_reducible repeat (first | apply Kd.R_alloc | apply Kd.R_drewN | apply Kd.R_drew)); exact HO_6.out⟩, ⟨by repeat (first | (with_reducible first | exact HB.out | apply below_alloc | apply pw_below_drewN | apply below_drew1) | exact HB.out)⟩⟩
      case round =>
       clear H'
       (try clear c1);(try clear c2);(try clear p2);(try clear c3);(try clear c4);(try clear c5);(try clear c6);(try clear c7);(try clear c8);(try clear c9);(try clear c10);(try clear c11);(try clear c12);(try clear c13);(try clear c14);(try clear c15);(try clear c16);(try clear c17);(try clear c18);(try clear c29);(try clear c29b0);(try clear c29b1);(try clear c29b2);(try clear c31);(try clear c32);(try clear c32b0);(try clear c32b1);(try clear c32b2);(try clear c33);(try clear c33b0);(try clear c33b1);(try clear c34);(try clear c34b0);(try clear c34b1);(try clear c34b2);(try clear c35);(try clear c35b0);(try clear c35b1);(try clear c36);(try clear c36b0);(try clear c36b1);(try clear c36b2);(try clear c37);(try clear c37b0);(try clear c37b1);(try clear c38);(try clear c38b0);(try clear c38b1);(try clear c38b2);(try clear c39);(try clear c39b0);(try clear c39b1);(try clear c40);(try clear c40b0);(try clear c40b1);(try clear c40b2);(try clear c41);(try clear c41b0);(try clear c41b1);(try clear c42);(try clear c42b0);(try clear c42b1);(try clear c43);(try clear c43b0);(try clear c43b1);(try clear c43b2);(try clear c44);(try clear c44b0);(try clear c44b1);(try clear c44b2);(try clear c45);(try clear c45b0);(try clear c45b1);(try clear c45b2);(try clear c46);(try clear c46b0);(try clear c46b1);(try clear c46b2);(try clear c47);(try clear c54);(try clear c56);(try clear c57);(try clear c57b0);(try clear c57b1);(try clear c59);(try clear c59b0);(try clear c59b1);(try clear p2)
       obtain ⟨x32_2, x243_2, rfl, rfl, HA, HK2, HO_6, HO_241, HB⟩ := hrel
       cases gk with
       | zero => exact absurd HA.out (by simp [laws_FnDigitsWritten.l0])
       | succ k2 =>
        have H := HA.out
        clear HA
        simp only [laws_FnDigitsWritten.l0] at H
        by_cases c61 : x243_2 < (t257.length : Int)
        · rw [if_pos c61] at H
          have c61b0 : decide (x243_2 < (t257.length : Int)) = true := decide_eq_true c61
          clear c61
          by_cases c62 : 0 ≤ x243_2
          rotate_left
          · exact none_ (if_neg c62) H
          rw [if_pos c62] at H
          have c62b0 : decide (0 ≤ x243_2) = true := decide_eq_true c62
          clear c62
          by_cases c63 : x243_2 < (t257.length : Int)
          rotate_left
          · exact none_ (if_neg c63) H
          rw [if_pos c63] at H
          have c63b0 : decide (x243_2 < (t257.length : Int)) = true := decide_eq_true c63
          clear c63
          replace H := Option.bind_eq_some_iff.mp H
          obtain ⟨⟨t292, t293⟩, A640, H⟩ := H
          dsimp only at H
          have A64 := Aside0.mk A640
          clear A640
          by_cases c65 : t293 = true
          · subst c65
            rw [if_pos rfl] at H
            by_cases c66 : t292 = (rd t257 x243_2)
            rotate_left
            · exact dead_ (if_neg c66) H hr_
            rw [if_pos c66] at H
            have c66b0 : (t292 == (rd t257 x243_2)) = true := beq_iff_eq.mpr c66
            have c66b1 : (t292 != (rd t257 x243_2)) = false := bne_eq_false_iff_eq.mpr c66
            clear c66
            by_cases c67 : (rd t257 x243_2) < 0
            · exact dead_ (if_pos c67) H hr_
            rw [if_neg c67] at H
            have c67b0 : decide ((rd t257 x243_2) < 0) = false := decide_eq_false c67
            clear c67
            by_cases c68 : x243_2 > 0
            · rw [if_pos c68] at H
              have c68b0 : decide (0 < x243_2) = true := decide_eq_true c68
              clear c68
              by_cases c69 : 0 < (t257.length : Int)
              rotate_left
              · exact none_ (if_neg c69) H
              rw [if_pos c69] at H
              have c69b0 : decide (0 < (t257.length : Int)) = true := decide_eq_true c69
              have c69b1 : decide (0 < t257.length) = true := decide_eq_true (by omega)
              clear c69
              by_cases c70 : (rd t257 x243_2) < (rd t257 0)
              · exact dead_ (if_pos c70) H hr_
              rw [if_neg c70] at H
              have c70b0 : decide ((rd t257 x243_2) < (rd t257 0)) = false := decide_eq_false c70
              clear c70
              as_aux_lemma =>
               have H' := Aside0.mk H
               clear H
               have p291 : 0 ≤ (x243_2 : Int) := of_decide_eq_true (by first | (with_reducible assumption) | assumption)
               have q291 : x243_2 < (t257.length : Int) := of_decide_eq_true (by first | (with_reducible assumption) | assumption)
               obtain ⟨ad291, e291, hx291_0⟩ := Kd.at_int (Kd.R_reads' HO_241.out).2.2 x243_2 p291 q291
               cases e291
               replace p291 := eq_true p291
               replace q291 := eq_true q291
               go_wp2_with (first | ((with_reducible refine gate_callee (f := 21) rfl ?_); refine goesL_ (some 251) rfl rfl Tryd.func21 (by kernel_rfl) rfl #[.int .i64 t256, .int .i64 x243_2] rfl z6_0_ ?_; (with_reducible refine (impl_CountDigit.calls k2 t256 x243_2 t292 true _ A64.out).mono ?_); rintro e w' ⟨rfl, ⟨nd, rfl⟩⟩; refine ⟨_, rfl, ?_⟩; have p295 : 0 ≤ (0 : Int) := (by omega); have q295 : 0 < (t257.length : Int) := of_decide_eq_true (by first | (with_reducible assumption) | assumption); obtain ⟨ad295, e295, hx295_0⟩ := Kd.at_int (Kd.R_reads' HO_6.out).2.2 0 p295 q295; obtain rfl : ad291 = ad295 := (by injection e295); have qi295 : (0 < t257.length) = True := eq_true (by omega); (try rw [show ((0 : Int)).toNat = 0 from rfl] at hx295_0); (try rw [Addr.add_zero'] at hx295_0); replace p295 := eq_true p295; replace q295 := eq_true q295))
               go_roundg k2
               case measure => have := HJ17.out; have := HK2.out; omega
               case rel => exact ⟨(wrap64 (x32_2 + (wrap64 (x243_2 * (rd t257 x243_2))))), (wrap64 (x243_2 + 1)), z6_2_, z6_2_, H', ⟨by have := HJ17.out; have := HK2.out; omega⟩, ⟨by (with_reducible repeat (first | apply Kd.R_alloc | apply Kd.R_drewN | apply Kd.R_drew)); exact HO_6.out⟩, ⟨by (with_reducible repeat (first | apply Kd.R_alloc | apply Kd.R_drewN | apply Kd.R_drew)); exact HO_241.out⟩, ⟨by repeat (first | (with_reducible first | exact HB.out | apply below_alloc | apply pw_below_drewN | apply below_drew1) | exact HB.out)⟩⟩
            rw [if_neg c68] at H
            have c68b0 : decide (0 < x243_2) = false := decide_eq_false c68
            clear c68
            as_aux_lemma =>
             have H' := Aside0.mk H
             clear H
             have p291 : 0 ≤ (x243_2 : Int) := of_decide_eq_true (by first | (with_reducible assumption) | assumption)
             have q291 : x243_2 < (t257.length : Int) := of_decide_eq_true (by first | (with_reducible assumption) | assumption)
             obtain ⟨ad291, e291, hx291_0⟩ := Kd.at_int (Kd.R_reads' HO_241.out).2.2 x243_2 p291 q291
             cases e291
             replace p291 := eq_true p291
             replace q291 := eq_true q291
             go_wp2_with (first | ((with_reducible refine gate_callee (f := 21) rfl ?_); refine goesL_ (some 251) rfl rfl Tryd.func21 (by kernel_rfl) rfl #[.int .i64 t256, .int .i64 x243_2] rfl z6_0_ ?_; (with_reducible refine (impl_CountDigit.calls k2 t256 x243_2 t292 true _ A64.out).mono ?_); rintro e w' ⟨rfl, ⟨nd, rfl⟩⟩; refine ⟨_, rfl, ?_⟩))
             go_roundg k2
             case measure => have := HJ17.out; have := HK2.out; omega
             case rel => exact ⟨(wrap64 (x32_2 + (wrap64 (x243_2 * (rd t257 x243_2))))), (wrap64 (x243_2 + 1)), z6_2_, z6_2_, H', ⟨by have := HJ17.out; have := HK2.out; omega⟩, ⟨by (with_reducible repeat (first | apply Kd.R_alloc | apply Kd.R_drewN | apply Kd.R_drew)); exact HO_6.out⟩, ⟨by (with_reducible repeat (first | apply Kd.R_alloc | apply Kd.R_drewN | apply Kd.R_drew)); exact HO_241.out⟩, ⟨by repeat (first | (with_reducible first | exact HB.out | apply below_alloc | apply pw_below_drewN | apply below_drew1) | exact HB.out)⟩⟩
          replace c65 := Bool.eq_false_iff.mpr c65
          subst c65
          rw [if_neg (show ¬ (false = true) by decide)] at H
          as_aux_lemma =>
           exact Bool.noConfusion ((Option.some.inj H).trans hr_.out)
        rw [if_neg c61] at H
        have c61b0 : decide (x243_2 < (t257.length : Int)) = false := decide_eq_false c61
        clear c61
        as_aux_lemma =>
        by_cases c71 : x32_2 = t269
        rotate_left
        · exact dead_ (if_neg c71) H hr_
        rw [if_pos c71] at H
        have c71b0 : (x32_2 == t269) = true := beq_iff_eq.mpr c71
        have c71b1 : (x32_2 != t269) = false := bne_eq_false_iff_eq.mpr c71
        clear c71
        have HC72 := Aside0.mk H
        clear H
        go_upto_if 286 with (fail)
        go_cut [] from 231 to 332 (fun wc => ∃ (kq : Nat), Aside0 (laws_FnDigitsWritten.j2 kq l1 t256 t273 t277 t278 t281 t282 = some r) ∧ Aside0 (kq ≤ k2) ∧ Aside0 (Below w.heap.size w wc))
        case first =>
         as_aux_lemma =>
         have H := HC72.out
         clear HC72
         by_cases c73 : t256 > 0
         · rw [if_pos c73] at H
           have c73b0 : decide (0 < t256) = true := decide_eq_true c73
           clear c73
           (first | rw [c73b0] | (simp only [i64_w, i32_w]; rw [c73b0]) | skip)
           replace H := Option.bind_eq_some_iff.mp H
           obtain ⟨⟨t296, t297⟩, A740, H⟩ := H
           dsimp only at H
           have A74 := Aside0.mk A740
           clear A740
           replace H := Option.bind_eq_some_iff.mp H
           obtain ⟨⟨t298, t299⟩, A750, H⟩ := H
           dsimp only at H
           have A75 := Aside0.mk A750
           clear A750
           replace H := Option.bind_eq_some_iff.mp H
           obtain ⟨⟨t300, t301⟩, A760, H⟩ := H
           dsimp only at H
           have A76 := Aside0.mk A760
           clear A760
           by_cases c77 : t297 = true
           · subst c77
             rw [if_pos rfl] at H
             by_cases c78 : (wrap64 (t265 - t296)) < 1
             · exact dead_ (if_pos c78) H hr_
             rw [if_neg c78] at H
             have c78b0 : decide ((wrap64 (t265 - t296)) < 1) = false := decide_eq_false c78
             clear c78
             by_cases c79 : (wrap64 (t265 - t296)) > 13
             · exact dead_ (if_pos c79) H hr_
             rw [if_neg c79] at H
             have c79b0 : decide (13 < (wrap64 (t265 - t296))) = false := decide_eq_false c79
             clear c79
             by_cases c80 : t299 = true
             · subst c80
               rw [if_pos rfl] at H
               by_cases c81 : t301 = true
               · subst c81
                 rw [if_pos rfl] at H
                 by_cases c82 : (wrap64 (t269 - t298)) = t300
                 rotate_left
                 · exact dead_ (if_neg c82) H hr_
                 rw [if_pos c82] at H
                 have c82b0 : ((wrap64 (t269 - t298)) == t300) = true := beq_iff_eq.mpr c82
                 have c82b1 : ((wrap64 (t269 - t298)) != t300) = false := bne_eq_false_iff_eq.mpr c82
                 clear c82
                 as_aux_lemma =>
                  have H' := Aside0.mk H
                  clear H
                  go_wp2_with (first | ((with_reducible refine gate_callee (f := 9) rfl ?_); refine goesL_ (some 290) rfl rfl Tryd.func9 (by kernel_rfl) rfl #[.int .i64 (wrap64 (t256 - 1))] rfl z6_0_ ?_; (with_reducible refine (impl_DigitsWritten.calls k2 (wrap64 (t256 - 1)) t296 true _ A74.out).mono ?_); rintro e w83 ⟨rfl, hb⟩; refine ⟨_, rfl, ?_⟩; have n0_ := Aside0.mk (Kd.R_below z6_6_ hb); have n1_ := Aside0.mk (Kd.R_below z6_5_ hb); have n2_ := Aside0.mk (below_step z6_1_ hb); clear HO_6; clear HO_241; clear HB; have HO_6 := n0_; have HO_241 := n1_; have HB := n2_; clear n0_ n1_ n2_; (try clear hb); (try clear hb2); (try clear hk); (try clear hi)) | ((with_reducible refine gate_callee (f := 11) rfl ?_); refine goesL_ (some 296) rfl rfl Tryd.func11 (by kernel_rfl) rfl #[.int .i64 (wrap64 (t256 - 1))] rfl z6_0_ ?_; (with_reducible refine (impl_SumOfDigitsUpTo.calls k2 (wrap64 (t256 - 1)) t298 true _ A75.out).mono ?_); rintro e w84 ⟨rfl, hb⟩; refine ⟨_, rfl, ?_⟩; have n0_ := Aside0.mk (Kd.R_below z6_6_ hb); have n1_ := Aside0.mk (Kd.R_below z6_5_ hb); have n2_ := Aside0.mk (below_step z6_1_ hb); clear HO_6; clear HO_241; clear HB; have HO_6 := n0_; have HO_241 := n1_; have HB := n2_; clear n0_ n1_ n2_; (try clear hb); (try clear hb2); (try clear hk); (try clear hi)) | ((with_reducible refine gate_callee (f := 22) rfl ?_); refine goesL_ (some 301) rfl rfl Tryd.func22 (by kernel_rfl) rfl #[.int .i64 t256] rfl z6_0_ ?_; (with_reducible refine (impl_DigitSum.calls k2 t256 t300 true _ ?side1 A76.out).mono ?_); (case side1 => exact Shelf.TabOk.below HT.out z6_1_); rintro e w85 ⟨rfl, hb⟩; refine ⟨_, rfl, ?_⟩; have n0_ := Aside0.mk (Kd.R_below z6_6_ hb); have n1_ := Aside0.mk (Kd.R_below z6_5_ hb); have n2_ := Aside0.mk (below_step z6_1_ hb); clear HO_6; clear HO_241; clear HB; have HO_6 := n0_; have HO_241 := n1_; have HB := n2_; clear n0_ n1_ n2_; (try clear hb); (try clear hb2); (try clear hk); (try clear hi)))
                  go_meet
                  case rel => exact ⟨_, H', ⟨by have := HJ17.out; have := HK2.out; first | omega | exact Nat.le_refl _⟩, ⟨by repeat (first | (with_reducible first | exact HB.out | apply below_alloc | apply pw_below_drewN | apply below_drew1) | exact HB.out)⟩⟩
               replace c81 := Bool.eq_false_iff.mpr c81
               subst c81
               rw [if_neg (show ¬ (false = true) by decide)] at H
               as_aux_lemma =>
                exact Bool.noConfusion ((Option.some.inj H).trans hr_.out)
             replace c80 := Bool.eq_false_iff.mpr c80
             subst c80
             rw [if_neg (show ¬ (false = true) by decide)] at H
             as_aux_lemma =>
              exact Bool.noConfusion ((Option.some.inj H).trans hr_.out)
           replace c77 := Bool.eq_false_iff.mpr c77
           subst c77
           rw [if_neg (show ¬ (false = true) by decide)] at H
           as_aux_lemma =>
            exact Bool.noConfusion ((Option.some.inj H).trans hr_.out)
         rw [if_neg c73] at H
         have c73b0 : decide (0 < t256) = false := decide_eq_false c73
         clear c73
         (first | rw [c73b0] | (simp only [i64_w, i32_w]; rw [c73b0]) | skip)
         as_aux_lemma =>
          have H' := Aside0.mk H
          clear H
          go_wp2
          go_meet
          case rel => exact ⟨_, H', ⟨by have := HJ17.out; have := HK2.out; first | omega | exact Nat.le_refl _⟩, ⟨by repeat (first | (with_reducible first | exact HB.out | apply below_alloc | apply pw_below_drewN | apply below_drew1) | exact HB.out)⟩⟩
        case rest =>
         as_aux_lemma =>
         clear HC72
         (try clear c1);(try clear c2);(try clear p2);(try clear q2);(try clear hx2);(try clear qi2);(try clear c3);(try clear c4);(try clear c5);(try clear c6);(try clear p6);(try clear c7);(try clear c8);(try clear c9);(try clear c10);(try clear c11);(try clear c12);(try clear c13);(try clear c14);(try clear c15);(try clear c16);(try clear c17);(try clear c18);(try clear c21);(try clear c22);(try clear c29);(try clear c29b0);(try clear c29b1);(try clear c29b2);(try clear p29);(try clear q29);(try clear hx29);(try clear qi29);(try clear c31);(try clear c32);(try clear c32b0);(try clear c32b1);(try clear c32b2);(try clear c33);(try clear c33b0);(try clear c33b1);(try clear c34);(try clear c34b0);(try clear c34b1);(try clear c34b2);(try clear c35);(try clear c35b0);(try clear c35b1);(try clear c36);(try clear c36b0);(try clear c36b1);(try clear c36b2);(try clear c37);(try clear c37b0);(try clear c37b1);(try clear c38);(try clear c38b0);(try clear c38b1);(try clear c38b2);(try clear c39);(try clear c39b0);(try clear c39b1);(try clear c40);(try clear c40b0);(try clear c40b1);(try clear c40b2);(try clear c41);(try clear c41b0);(try clear c41b1);(try clear c42);(try clear c42b0);(try clear c42b1);(try clear c43);(try clear c43b0);(try clear c43b1);(try clear c43b2);(try clear c44);(try clear c44b0);(try clear c44b1);(try clear c44b2);(try clear c45);(try clear c45b0);(try clear c45b1);(try clear c45b2);(try clear c46);(try clear c46b0);(try clear c46b1);(try clear c46b2);(try clear c47);(try clear c54);(try clear c56);(try clear c57);(try clear c57b0);(try clear c57b1);(try clear c59);(try clear c59b0);(try clear c59b1);(try clear c61);(try clear c61b0);(try clear c62);(try clear c62b0);(try clear c63);(try clear c63b0);(try clear p64);(try clear c65);(try clear c66);(try clear c66b0);(try clear c66b1);(try clear c67);(try clear c67b0);(try clear c68);(try clear c68b0);(try clear c69);(try clear c69b0);(try clear c69b1);(try clear c70);(try clear c70b0);(try clear c71);(try clear c71b0);(try clear c71b1);(try clear c73);(try clear c73b0);(try clear c77);(try clear c78);(try clear c78b0);(try clear c79);(try clear c79b0);(try clear c80);(try clear c81);(try clear c82);(try clear c82b0);(try clear c82b1);(try clear hx291_0);(try clear hx295_0);(try clear p2);(try clear p291);(try clear p295);(try clear q291);(try clear q295)
         obtain ⟨kq, HA, HJ71, HB⟩ := hcut
         cases kq with
         | zero => exact absurd HA.out (by simp [laws_FnDigitsWritten.j2])
         | succ kj71 =>
          have H := HA.out
          clear HA
          simp only [laws_FnDigitsWritten.j2] at H
          replace H := Option.bind_eq_some_iff.mp H
          obtain ⟨⟨t302, t303⟩, A860, H⟩ := H
          dsimp only at H
          have A86 := Aside0.mk A860
          clear A860
          by_cases c87 : t303 = true
          · subst c87
            rw [if_pos rfl] at H
            by_cases c88 : t302 > t256
            · exact dead_ (if_pos c88) H hr_
            rw [if_neg c88] at H
            have c88b0 : decide (t256 < t302) = false := decide_eq_false c88
            clear c88
            by_cases c89 : t273 < 1000000000000
            · rw [if_pos c89] at H
              have c89b0 : decide (t273 < 1000000000000) = true := decide_eq_true c89
              clear c89
              replace H := Option.bind_eq_some_iff.mp H
              obtain ⟨⟨t304, t305⟩, A900, H⟩ := H
              dsimp only at H
              have A90 := Aside0.mk A900
              clear A900
              by_cases c91 : t305 = true
              · subst c91
                rw [if_pos rfl] at H
                by_cases c92 : t304 ≤ t256
                · exact dead_ (if_pos c92) H hr_
                rw [if_neg c92] at H
                have c92b0 : decide (t304 ≤ t256) = false := decide_eq_false c92
                clear c92
                as_aux_lemma =>
                 have H' := Aside0.mk H
                 clear H
                 go_wp2_with (first | ((with_reducible refine gate_callee (f := 9) rfl ?_); refine goesL_ (some 335) rfl rfl Tryd.func9 (by kernel_rfl) rfl #[.int .i64 t273] rfl z6_0_ ?_; (with_reducible refine (impl_DigitsWritten.calls kj71 t273 t302 true _ A86.out).mono ?_); rintro e w93 ⟨rfl, hb⟩; refine ⟨_, rfl, ?_⟩; have n0_ := Aside0.mk (below_step z6_1_ hb); clear HB; have HB := n0_; clear n0_; (try clear hb); (try clear hb2); (try clear hk); (try clear hi)) | ((with_reducible refine gate_callee (f := 9) rfl ?_); refine goesL_ (some 350) rfl rfl Tryd.func9 (by kernel_rfl) rfl #[.int .i64 (wrap64 (t273 + 1))] rfl z6_0_ ?_; (with_reducible refine (impl_DigitsWritten.calls kj71 (wrap64 (t273 + 1)) t304 true _ A90.out).mono ?_); rintro e w94 ⟨rfl, hb⟩; refine ⟨_, rfl, ?_⟩; have n0_ := Aside0.mk (below_step z6_1_ hb); clear HB; have HB := n0_; clear n0_; (try clear hb); (try clear hb2); (try clear hk); (try clear hi)))
                 go_meet
                 case rel => exact ⟨_, H', ⟨by have := HJ17.out; have := HK2.out; have := HJ71.out; first | omega | exact Nat.le_refl _⟩, ⟨by repeat (first | (with_reducible first | exact HB.out | apply below_alloc | apply pw_below_drewN | apply below_drew1) | exact HB.out)⟩⟩
              replace c91 := Bool.eq_false_iff.mpr c91
              subst c91
              rw [if_neg (show ¬ (false = true) by decide)] at H
              as_aux_lemma =>
               exact Bool.noConfusion ((Option.some.inj H).trans hr_.out)
            rw [if_neg c89] at H
            have c89b0 : decide (t273 < 1000000000000) = false := decide_eq_false c89
            clear c89
            as_aux_lemma =>
             have H' := Aside0.mk H
             clear H
             go_wp2_with (first | ((with_reducible refine gate_callee (f := 9) rfl ?_); refine goesL_ (some 335) rfl rfl Tryd.func9 (by kernel_rfl) rfl #[.int .i64 t273] rfl z6_0_ ?_; (with_reducible refine (impl_DigitsWritten.calls kj71 t273 t302 true _ A86.out).mono ?_); rintro e w95 ⟨rfl, hb⟩; refine ⟨_, rfl, ?_⟩; have n0_ := Aside0.mk (below_step z6_1_ hb); clear HB; have HB := n0_; clear n0_; (try clear hb); (try clear hb2); (try clear hk); (try clear hi)))
             go_meet
             case rel => exact ⟨_, H', ⟨by have := HJ17.out; have := HK2.out; have := HJ71.out; first | omega | exact Nat.le_refl _⟩, ⟨by repeat (first | (with_reducible first | exact HB.out | apply below_alloc | apply pw_below_drewN | apply below_drew1) | exact HB.out)⟩⟩
          replace c87 := Bool.eq_false_iff.mpr c87
          subst c87
          rw [if_neg (show ¬ (false = true) by decide)] at H
          as_aux_lemma =>
           exact Bool.noConfusion ((Option.some.inj H).trans hr_.out)
    replace c56 := Bool.eq_false_iff.mpr c56
    subst c56
    rw [if_neg (show ¬ (false = true) by decide)] at H
    as_aux_lemma =>
     have H' := Aside0.mk H
     clear H
     go_wp2
     go_meet
     case rel => exact ⟨_, H', ⟨by have := HJ17.out; first | omega | exact Nat.le_refl _⟩, ⟨by repeat (first | (with_reducible first | exact HB.out | apply below_alloc | apply pw_below_drewN | apply below_drew1) | exact HB.out)⟩⟩
   case rest =>
    as_aux_lemma =>
    clear HC55
    (try clear c1);(try clear c2);(try clear p2);(try clear q2);(try clear hx2);(try clear qi2);(try clear c3);(try clear c4);(try clear c5);(try clear c6);(try clear p6);(try clear c7);(try clear c8);(try clear c9);(try clear c10);(try clear c11);(try clear c12);(try clear c13);(try clear c14);(try clear c15);(try clear c16);(try clear c17);(try clear c18);(try clear c21);(try clear c22);(try clear c29);(try clear c29b0);(try clear c29b1);(try clear c29b2);(try clear p29);(try clear q29);(try clear hx29);(try clear qi29);(try clear c31);(try clear c32);(try clear c32b0);(try clear c32b1);(try clear c32b2);(try clear c33);(try clear c33b0);(try clear c33b1);(try clear c34);(try clear c34b0);(try clear c34b1);(try clear c34b2);(try clear c35);(try clear c35b0);(try clear c35b1);(try clear c36);(try clear c36b0);(try clear c36b1);(try clear c36b2);(try clear c37);(try clear c37b0);(try clear c37b1);(try clear c38);(try clear c38b0);(try clear c38b1);(try clear c38b2);(try clear c39);(try clear c39b0);(try clear c39b1);(try clear c40);(try clear c40b0);(try clear c40b1);(try clear c40b2);(try clear c41);(try clear c41b0);(try clear c41b1);(try clear c42);(try clear c42b0);(try clear c42b1);(try clear c43);(try clear c43b0);(try clear c43b1);(try clear c43b2);(try clear c44);(try clear c44b0);(try clear c44b1);(try clear c44b2);(try clear c45);(try clear c45b0);(try clear c45b1);(try clear c45b2);(try clear c46);(try clear c46b0);(try clear c46b1);(try clear c46b2);(try clear c47);(try clear c54);(try clear c56);(try clear c57);(try clear c57b0);(try clear c57b1);(try clear c59);(try clear c59b0);(try clear c59b1);(try clear c61);(try clear c61b0);(try clear c62);(try clear c62b0);(try clear c63);(try clear c63b0);(try clear p64);(try clear c65);(try clear c66);(try clear c66b0);(try clear c66b1);(try clear c67);(try clear c67b0);(try clear c68);(try clear c68b0);(try clear c69);(try clear c69b0);(try clear c69b1);(try clear c70);(try clear c70b0);(try clear c71);(try clear c71b0);(try clear c71b1);(try clear c73);(try clear c73b0);(try clear c77);(try clear c78);(try clear c78b0);(try clear c79);(try clear c79b0);(try clear c80);(try clear c81);(try clear c82);(try clear c82b0);(try clear c82b1);(try clear c87);(try clear c88);(try clear c88b0);(try clear c89);(try clear c89b0);(try clear c91);(try clear c92);(try clear c92b0);(try clear hx291_0);(try clear hx295_0);(try clear p2);(try clear p29);(try clear p291);(try clear p295);(try clear p6);(try clear p64);(try clear q2);(try clear q29);(try clear q291);(try clear q295)
    obtain ⟨kq, HA, HJ54, HB⟩ := hcut
    cases kq with
    | zero => exact absurd HA.out (by simp [laws_FnDigitsWritten.j3])
    | succ kj54 =>
     have H := HA.out
     clear HA
     simp only [laws_FnDigitsWritten.j3] at H
     have HC96 := Aside0.mk H
     clear H
     go_upto_if 360 with (fail)
     go_cut [] from 360 to 418 (fun wc => ∃ (kq : Nat), Aside0 (laws_FnDigitsWritten.j5 kq l1 = some r) ∧ Aside0 (kq ≤ kj54) ∧ Aside0 (Below w.heap.size w wc))
     case first =>
      as_aux_lemma =>
      have H := HC96.out
      clear HC96
      by_cases c97 : t278 = true
      · subst c97
        rw [if_pos rfl] at H
        replace H := Option.bind_eq_some_iff.mp H
        obtain ⟨⟨t306, t307⟩, A980, H⟩ := H
        dsimp only at H
        have A98 := Aside0.mk A980
        clear A980
        replace H := Option.bind_eq_some_iff.mp H
        obtain ⟨⟨t308, t309⟩, A990, H⟩ := H
        dsimp only at H
        have A99 := Aside0.mk A990
        clear A990
        by_cases c100 : t281 < 1
        · exact dead_ (if_pos c100) H hr_
        rw [if_neg c100] at H
        have c100b0 : decide (t281 < 1) = false := decide_eq_false c100
        clear c100
        (first | rw [c100b0] | (simp only [i64_w, i32_w]; rw [c100b0]) | skip)
        by_cases c101 : t282 < 1
        · exact dead_ (if_pos c101) H hr_
        rw [if_neg c101] at H
        have c101b0 : decide (t282 < 1) = false := decide_eq_false c101
        clear c101
        by_cases c102 : t277 < 0
        · exact dead_ (if_pos c102) H hr_
        rw [if_neg c102] at H
        have c102b0 : decide (t277 < 0) = false := decide_eq_false c102
        clear c102
        as_aux_lemma =>
        by_cases c103 : t277 > 9
        · exact dead_ (if_pos c103) H hr_
        rw [if_neg c103] at H
        have c103b0 : decide (9 < t277) = false := decide_eq_false c103
        clear c103
        by_cases c104 : t307 = true
        · subst c104
          rw [if_pos rfl] at H
          by_cases c105 : (wrap64 (t306 + t282)) = t256
          rotate_left
          · exact dead_ (if_neg c105) H hr_
          rw [if_pos c105] at H
          have c105b0 : ((wrap64 (t306 + t282)) == t256) = true := beq_iff_eq.mpr c105
          have c105b1 : ((wrap64 (t306 + t282)) != t256) = false := bne_eq_false_iff_eq.mpr c105
          clear c105
          by_cases c106 : t309 = true
          · subst c106
            rw [if_pos rfl] at H
            by_cases c107 : t256 > t308
            · exact dead_ (if_pos c107) H hr_
            rw [if_neg c107] at H
            have c107b0 : decide (t308 < t256) = false := decide_eq_false c107
            clear c107
            have H' := Aside0.mk H
            clear H
            go_wp2_with (first | ((with_reducible refine gate_callee (f := 9) rfl ?_); refine goesL_ (some 364) rfl rfl Tryd.func9 (by kernel_rfl) rfl #[.int .i64 (wrap64 (t281 - 1))] rfl z6_0_ ?_; (with_reducible refine (impl_DigitsWritten.calls kj54 (wrap64 (t281 - 1)) t306 true _ A98.out).mono ?_); rintro e w108 ⟨rfl, hb⟩; refine ⟨_, rfl, ?_⟩; have n0_ := Aside0.mk (below_step z6_1_ hb); clear HB; have HB := n0_; clear n0_; (try clear hb); (try clear hb2); (try clear hk); (try clear hi)) | ((with_reducible refine gate_callee (f := 9) rfl ?_); refine goesL_ (some 369) rfl rfl Tryd.func9 (by kernel_rfl) rfl #[.int .i64 t281] rfl z6_0_ ?_; (with_reducible refine (impl_DigitsWritten.calls kj54 t281 t308 true _ A99.out).mono ?_); rintro e w109 ⟨rfl, hb⟩; refine ⟨_, rfl, ?_⟩; have n0_ := Aside0.mk (below_step z6_1_ hb); clear HB; have HB := n0_; clear n0_; (try clear hb); (try clear hb2); (try clear hk); (try clear hi)))
            go_loopg [51, 52] kj54 (fun kq v51 v52 w' => ∃ (x51_3 : Int) (x52_3 : Int), v51 = .int .i64 x51_3 ∧ v52 = .int .i64 x52_3 ∧ Aside0 (laws_FnDigitsWritten.l1 kq l1 t277 t308 x51_3 x52_3 = some r) ∧ Aside0 (kq ≤ kj54) ∧ Aside0 (Below w.heap.size w w'))
            case atStart => exact ⟨(t281), (t256), z6_2_, z6_2_, H', ⟨Nat.le_refl _⟩, ⟨by repeat (first | (with_reducible first | exact HB.out | apply below_alloc | apply pw_below_drewN | apply below_drew1) | exact HB.out)⟩⟩
            case round =>
             clear H'
             (try clear c1);(try clear c2);(try clear p2);(try clear q2);(try clear hx2);(try clear qi2);(try clear c3);(try clear c4);(try clear c5);(try clear c6);(try clear p6);(try clear c7);(try clear c8);(try clear c9);(try clear c10);(try clear c11);(try clear c12);(try clear c13);(try clear c14);(try clear c15);(try clear c16);(try clear c17);(try clear c18);(try clear c21);(try clear c22);(try clear c29);(try clear c29b0);(try clear c29b1);(try clear c29b2);(try clear p29);(try clear q29);(try clear hx29);(try clear qi29);(try clear c31);(try clear c32);(try clear c32b0);(try clear c32b1);(try clear c32b2);(try clear c33);(try clear c33b0);(try clear c33b1);(try clear c34);(try clear c34b0);(try clear c34b1);(try clear c34b2);(try clear c35);(try clear c35b0);(try clear c35b1);(try clear c36);(try clear c36b0);(try clear c36b1);(try clear c36b2);(try clear c37);(try clear c37b0);(try clear c37b1);(try clear c38);(try clear c38b0);(try clear c38b1);(try clear c38b2);(try clear c39);(try clear c39b0);(try clear c39b1);(try clear c40);(try clear c40b0);(try clear c40b1);(try clear c40b2);(try clear c41);(try clear c41b0);(try clear c41b1);(try clear c42);(try clear c42b0);(try clear c42b1);(try clear c43);(try clear c43b0);(try clear c43b1);(try clear c43b2);(try clear c44);(try clear c44b0);(try clear c44b1);(try clear c44b2);(try clear c45);(try clear c45b0);(try clear c45b1);(try clear c45b2);(try clear c46);(try clear c46b0);(try clear c46b1);(try clear c46b2);(try clear c47);(try clear c54);(try clear c56);(try clear c57);(try clear c57b0);(try clear c57b1);(try clear c59);(try clear c59b0);(try clear c59b1);(try clear c61);(try clear c61b0);(try clear c62);(try clear c62b0);(try clear c63);(try clear c63b0);(try clear p64);(try clear c65);(try clear c66);(try clear c66b0);(try clear c66b1);(try clear c67);(try clear c67b0);(try clear c68);(try clear c68b0);(try clear c69);(try clear c69b0);(try clear c69b1);(try clear c70);(try clear c70b0);(try clear c71);(try clear c71b0);(try clear c71b1);(try clear c73);(try clear c73b0);(try clear c77);(try clear c78);(try clear c78b0);(try clear c79);(try clear c79b0);(try clear c80);(try clear c81);(try clear c82);(try clear c82b0);(try clear c82b1);(try clear c87);(try clear c88);(try clear c88b0);(try clear c89);(try clear c89b0);(try clear c91);(try clear c92);(try clear c92b0);(try clear c97);(try clear c100);(try clear c100b0);(try clear c101);(try clear c101b0);(try clear c102);(try clear c102b0);(try clear c103);(try clear c103b0);(try clear c104);(try clear c105);(try clear c105b0);(try clear c105b1);(try clear c106);(try clear c107);(try clear c107b0);(try clear hx291_0);(try clear hx295_0);(try clear p2);(try clear p29);(try clear p291);(try clear p295);(try clear p6);(try clear p64);(try clear q2);(try clear q29);(try clear q291);(try clear q295)
             obtain ⟨x51_3, x52_3, rfl, rfl, HA, HK3, HB⟩ := hrel
             cases gk with
             | zero => exact absurd HA.out (by simp [laws_FnDigitsWritten.l1])
             | succ k3 =>
              have H := HA.out
              clear HA
              simp only [laws_FnDigitsWritten.l1] at H
              by_cases c110 : x52_3 < t308
              · rw [if_pos c110] at H
                have c110b0 : decide (x52_3 < t308) = true := decide_eq_true c110
                clear c110
                as_aux_lemma =>
                 have H' := Aside0.mk H
                 clear H
                 go_wp2
                 go_roundg k3
                 case measure => have := HJ17.out; have := HJ54.out; have := HK3.out; omega
                 case rel => exact ⟨(wrap64 (Int.tdiv x51_3 10)), (wrap64 (x52_3 + 1)), z6_2_, z6_2_, H', ⟨by have := HJ17.out; have := HJ54.out; have := HK3.out; omega⟩, ⟨by repeat (first | (with_reducible first | exact HB.out | apply below_alloc | apply pw_below_drewN | apply below_drew1) | exact HB.out)⟩⟩
              rw [if_neg c110] at H
              have c110b0 : decide (x52_3 < t308) = false := decide_eq_false c110
              clear c110
              by_cases c111 : (Int.tmod x51_3 10) = t277
              rotate_left
              · exact dead_ (if_neg c111) H hr_
              rw [if_pos c111] at H
              have c111b0 : ((Int.tmod x51_3 10) == t277) = true := beq_iff_eq.mpr c111
              have c111b1 : ((Int.tmod x51_3 10) != t277) = false := bne_eq_false_iff_eq.mpr c111
              clear c111
              as_aux_lemma =>
               have H' := Aside0.mk H
               clear H
               go_wp2
               go_meet
               case rel => exact ⟨_, H', ⟨by have := HJ17.out; have := HJ54.out; have := HK3.out; first | omega | exact Nat.le_refl _⟩, ⟨by repeat (first | (with_reducible first | exact HB.out | apply below_alloc | apply pw_below_drewN | apply below_drew1) | exact HB.out)⟩⟩
          replace c106 := Bool.eq_false_iff.mpr c106
          subst c106
          rw [if_neg (show ¬ (false = true) by decide)] at H
          as_aux_lemma =>
           exact Bool.noConfusion ((Option.some.inj H).trans hr_.out)
        replace c104 := Bool.eq_false_iff.mpr c104
        subst c104
        rw [if_neg (show ¬ (false = true) by decide)] at H
        as_aux_lemma =>
         exact Bool.noConfusion ((Option.some.inj H).trans hr_.out)
      replace c97 := Bool.eq_false_iff.mpr c97
      subst c97
      rw [if_neg (show ¬ (false = true) by decide)] at H
      as_aux_lemma =>
       have H' := Aside0.mk H
       clear H
       go_wp2
       go_meet
       case rel => exact ⟨_, H', ⟨by have := HJ17.out; have := HJ54.out; first | omega | exact Nat.le_refl _⟩, ⟨by repeat (first | (with_reducible first | exact HB.out | apply below_alloc | apply pw_below_drewN | apply below_drew1) | exact HB.out)⟩⟩
     case rest =>
      as_aux_lemma =>
      clear HC96
      (try clear c1);(try clear c2);(try clear p2);(try clear q2);(try clear hx2);(try clear qi2);(try clear c3);(try clear c4);(try clear c5);(try clear c6);(try clear p6);(try clear c7);(try clear c8);(try clear c9);(try clear c10);(try clear c11);(try clear c12);(try clear c13);(try clear c14);(try clear c15);(try clear c16);(try clear c17);(try clear c18);(try clear c21);(try clear c22);(try clear c29);(try clear c29b0);(try clear c29b1);(try clear c29b2);(try clear p29);(try clear q29);(try clear hx29);(try clear qi29);(try clear c31);(try clear c32);(try clear c32b0);(try clear c32b1);(try clear c32b2);(try clear c33);(try clear c33b0);(try clear c33b1);(try clear c34);(try clear c34b0);(try clear c34b1);(try clear c34b2);(try clear c35);(try clear c35b0);(try clear c35b1);(try clear c36);(try clear c36b0);(try clear c36b1);(try clear c36b2);(try clear c37);(try clear c37b0);(try clear c37b1);(try clear c38);(try clear c38b0);(try clear c38b1);(try clear c38b2);(try clear c39);(try clear c39b0);(try clear c39b1);(try clear c40);(try clear c40b0);(try clear c40b1);(try clear c40b2);(try clear c41);(try clear c41b0);(try clear c41b1);(try clear c42);(try clear c42b0);(try clear c42b1);(try clear c43);(try clear c43b0);(try clear c43b1);(try clear c43b2);(try clear c44);(try clear c44b0);(try clear c44b1);(try clear c44b2);(try clear c45);(try clear c45b0);(try clear c45b1);(try clear c45b2);(try clear c46);(try clear c46b0);(try clear c46b1);(try clear c46b2);(try clear c47);(try clear c54);(try clear c56);(try clear c57);(try clear c57b0);(try clear c57b1);(try clear c59);(try clear c59b0);(try clear c59b1);(try clear c61);(try clear c61b0);(try clear c62);(try clear c62b0);(try clear c63);(try clear c63b0);(try clear p64);(try clear c65);(try clear c66);(try clear c66b0);(try clear c66b1);(try clear c67);(try clear c67b0);(try clear c68);(try clear c68b0);(try clear c69);(try clear c69b0);(try clear c69b1);(try clear c70);(try clear c70b0);(try clear c71);(try clear c71b0);(try clear c71b1);(try clear c73);(try clear c73b0);(try clear c77);(try clear c78);(try clear c78b0);(try clear c79);(try clear c79b0);(try clear c80);(try clear c81);(try clear c82);(try clear c82b0);(try clear c82b1);(try clear c87);(try clear c88);(try clear c88b0);(try clear c89);(try clear c89b0);(try clear c91);(try clear c92);(try clear c92b0);(try clear c97);(try clear c100);(try clear c100b0);(try clear c101);(try clear c101b0);(try clear c102);(try clear c102b0);(try clear c103);(try clear c103b0);(try clear c104);(try clear c105);(try clear c105b0);(try clear c105b1);(try clear c106);(try clear c107);(try clear c107b0);(try clear c110);(try clear c110b0);(try clear c111);(try clear c111b0);(try clear c111b1);(try clear hx291_0);(try clear hx295_0);(try clear p2);(try clear p29);(try clear p291);(try clear p295);(try clear p6);(try clear p64);(try clear q2);(try clear q29);(try clear q291);(try clear q295)
      obtain ⟨kq, HA, HJ95, HB⟩ := hcut
      cases kq with
      | zero => exact absurd HA.out (by simp [laws_FnDigitsWritten.j5])
      | succ kj95 =>
       have H := HA.out
       clear HA
       simp only [laws_FnDigitsWritten.j5] at H
       replace H := Option.bind_eq_some_iff.mp H
       obtain ⟨⟨t310, t311⟩, A1120, H⟩ := H
       dsimp only at H
       have A112 := Aside0.mk A1120
       clear A1120
       replace H := Option.bind_eq_some_iff.mp H
       obtain ⟨⟨t312, t313⟩, A1130, H⟩ := H
       dsimp only at H
       have A113 := Aside0.mk A1130
       clear A1130
       replace H := Option.bind_eq_some_iff.mp H
       obtain ⟨⟨t314, t315⟩, A1140, H⟩ := H
       dsimp only at H
       have A114 := Aside0.mk A1140
       clear A1140
       replace H := Option.bind_eq_some_iff.mp H
       obtain ⟨⟨t316, t317⟩, A1150, H⟩ := H
       dsimp only at H
       have A115 := Aside0.mk A1150
       clear A1150
       replace H := Option.bind_eq_some_iff.mp H
       obtain ⟨⟨t318, t319⟩, A1160, H⟩ := H
       dsimp only at H
       have A116 := Aside0.mk A1160
       clear A1160
       as_aux_lemma =>
       replace H := Option.bind_eq_some_iff.mp H
       obtain ⟨⟨t320, t321⟩, A1170, H⟩ := H
       dsimp only at H
       have A117 := Aside0.mk A1170
       clear A1170
       by_cases c118 : (t313 != t315) = true
       · exact dead_ (if_pos c118) H hr_
       rw [if_neg c118] at H
       have c118b0 : (t313 != t315) = false := by simpa using c118
       (try (have c118b1 : decide (t313 = t315) = true := by simpa using c118))
       (try (have c118b2 : (t313 == t315) = true := by simpa using c118))
       clear c118
       by_cases c119 : t312 = t314
       rotate_left
       · exact dead_ (if_neg c119) H hr_
       rw [if_pos c119] at H
       have c119b0 : (t312 == t314) = true := beq_iff_eq.mpr c119
       have c119b1 : (t312 != t314) = false := bne_eq_false_iff_eq.mpr c119
       clear c119
       by_cases c120 : (t319 != t321) = true
       · exact dead_ (if_pos c120) H hr_
       rw [if_neg c120] at H
       have c120b0 : (t319 != t321) = false := by simpa using c120
       (try (have c120b1 : decide (t319 = t321) = true := by simpa using c120))
       (try (have c120b2 : (t319 == t321) = true := by simpa using c120))
       clear c120
       as_aux_lemma =>
       by_cases c121 : t318 = t320
       rotate_left
       · exact dead_ (if_neg c121) H hr_
       rw [if_pos c121] at H
       have c121b0 : (t318 == t320) = true := beq_iff_eq.mpr c121
       have c121b1 : (t318 != t320) = false := bne_eq_false_iff_eq.mpr c121
       clear c121
       have HC122 := Aside0.mk H
       clear H
       go_upto_if 471 with (first | ((with_reducible refine gate_callee (f := 23) rfl ?_); refine goesL_ (some 421) rfl rfl Tryd.func23 (by kernel_rfl) rfl #[.slice A1 l1.length c1] rfl z6_0_ ?_; (with_reducible refine (spec_DrawLeastForCount.calls _ _ l1 t310 t311 _ ?side1 ?side2 A112.out).mono ?_); (case side1 => repeat (first | exact (Kd.C_below HR1.out HB.out) | (with_reducible refine Kd.C_alloc ?_ _) | (with_reducible refine Kd.C_drewN ?_ _) | (with_reducible refine Kd.C_drew ?_))); (case side2 => exact HC1.out); rintro e w123 ⟨rfl, hb⟩; refine ⟨_, rfl, ?_⟩; have n0_ := Aside0.mk (below_step z6_1_ hb); clear HB; have HB := n0_; clear n0_; (try clear hb); (try clear hb2); (try clear hk); (try clear hi)) | ((with_reducible refine gate_callee (f := 24) rfl ?_); refine goesL_ (some 427) rfl rfl Tryd.func24 (by kernel_rfl) rfl #[.int .i64 t310, .int .i64 t311] rfl z6_0_ ?_; (with_reducible refine (impl_LeastForCount.calls kj95 t310 t311 t312 t313 _ A113.out).mono ?_); rintro e w124 ⟨rfl, hb⟩; refine ⟨_, rfl, ?_⟩; have n0_ := Aside0.mk (below_step z6_1_ hb); clear HB; have HB := n0_; clear n0_; (try clear hb); (try clear hb2); (try clear hk); (try clear hi)) | ((with_reducible refine gate_callee (f := 25) rfl ?_); refine goesL_ (some 433) rfl rfl Tryd.func25 (by kernel_rfl) rfl #[.int .i64 t310, .int .i64 t311] rfl z6_0_ ?_; (with_reducible refine (spec_LeastForCount.calls kj95 t310 t311 t314 t315 _ A114.out).mono ?_); rintro e w' ⟨rfl, ⟨nd, rfl⟩⟩; refine ⟨_, rfl, ?_⟩) | ((with_reducible refine gate_callee (f := 26) rfl ?_); refine goesL_ (some 438) rfl rfl Tryd.func26 (by kernel_rfl) rfl #[.slice A1 l1.length c1] rfl z6_0_ ?_; (with_reducible refine (spec_DrawCountDigit.calls _ _ l1 t316 t317 _ ?side1 ?side2 A115.out).mono ?_); (case side1 => repeat (first | exact (Kd.C_below HR1.out z6_1_) | (with_reducible refine Kd.C_alloc ?_ _) | (with_reducible refine Kd.C_drewN ?_ _) | (with_reducible refine Kd.C_drew ?_))); (case side2 => exact HC1.out); rintro e w125 ⟨rfl, hb⟩; refine ⟨_, rfl, ?_⟩; have n0_ := Aside0.mk (below_step z6_1_ hb); clear HB; have HB := n0_; clear n0_; (try clear hb); (try clear hb2); (try clear hk); (try clear hi)) | ((with_reducible refine gate_callee (f := 21) rfl ?_); refine goesL_ (some 444) rfl rfl Tryd.func21 (by kernel_rfl) rfl #[.int .i64 t316, .int .i64 t317] rfl z6_0_ ?_; (with_reducible refine (impl_CountDigit.calls kj95 t316 t317 t318 t319 _ A116.out).mono ?_); rintro e w' ⟨rfl, ⟨nd, rfl⟩⟩; refine ⟨_, rfl, ?_⟩) | ((with_reducible refine gate_callee (f := 27) rfl ?_); refine goesL_ (some 450) rfl rfl Tryd.func27 (by kernel_rfl) rfl #[.int .i64 t316, .int .i64 t317] rfl z6_0_ ?_; (with_reducible refine (spec_CountDigit.calls kj95 t316 t317 t320 t321 _ A117.out).mono ?_); rintro e w' ⟨rfl, ⟨nd, rfl⟩⟩; refine ⟨_, rfl, ?_⟩))
       (try simp only [Act.put, List.setIfInBounds_toArray, List.set_cons_zero, List.set_cons_succ])
       go_cut [] from 419 to 500 (fun wc => ∃ (kq : Nat), Aside0 (laws_FnDigitsWritten.j6 kq t316 t317 t318 t319 = some r) ∧ Aside0 (kq ≤ kj95) ∧ Aside0 (Below w.heap.size w wc))
       case first =>
        as_aux_lemma =>
        have H := HC122.out
        clear HC122
        by_cases c126 : t313 = true
        · subst c126
          rw [if_pos rfl] at H
          replace H := Option.bind_eq_some_iff.mp H
          obtain ⟨⟨t322, t323⟩, A1270, H⟩ := H
          dsimp only at H
          have A127 := Aside0.mk A1270
          clear A1270
          replace H := Option.bind_eq_some_iff.mp H
          obtain ⟨⟨t324, t325⟩, A1280, H⟩ := H
          dsimp only at H
          have A128 := Aside0.mk A1280
          clear A1280
          by_cases c129 : t323 = true
          · subst c129
            rw [if_pos rfl] at H
            by_cases c130 : t322 < t311
            · exact dead_ (if_pos c130) H hr_
            rw [if_neg c130] at H
            have c130b0 : decide (t322 < t311) = false := decide_eq_false c130
            clear c130
            (first | rw [c130b0] | (simp only [i64_w, i32_w]; rw [c130b0]) | skip)
            by_cases c131 : t325 = true
            · subst c131
              rw [if_pos rfl] at H
              by_cases c132 : t324 ≥ t311
              · exact dead_ (if_pos c132) H hr_
              rw [if_neg c132] at H
              have c132b0 : decide (t311 ≤ t324) = false := decide_eq_false c132
              clear c132
              as_aux_lemma =>
               have H' := Aside0.mk H
               clear H
               go_wp2_with (first | ((with_reducible refine gate_callee (f := 21) rfl ?_); refine goesL_ (some 475) rfl rfl Tryd.func21 (by kernel_rfl) rfl #[.int .i64 t312, .int .i64 t310] rfl z6_0_ ?_; (with_reducible refine (impl_CountDigit.calls kj95 t312 t310 t322 true _ A127.out).mono ?_); rintro e w' ⟨rfl, ⟨nd, rfl⟩⟩; refine ⟨_, rfl, ?_⟩) | ((with_reducible refine gate_callee (f := 21) rfl ?_); refine goesL_ (some 482) rfl rfl Tryd.func21 (by kernel_rfl) rfl #[.int .i64 (wrap64 (t312 - 1)), .int .i64 t310] rfl z6_0_ ?_; (with_reducible refine (impl_CountDigit.calls kj95 (wrap64 (t312 - 1)) t310 t324 true _ A128.out).mono ?_); rintro e w' ⟨rfl, ⟨nd, rfl⟩⟩; refine ⟨_, rfl, ?_⟩))
               go_meet
               case rel => exact ⟨_, H', ⟨by have := HJ17.out; have := HJ54.out; have := HJ95.out; first | omega | exact Nat.le_refl _⟩, ⟨by repeat (first | (with_reducible first | exact HB.out | apply below_alloc | apply pw_below_drewN | apply below_drew1) | exact HB.out)⟩⟩
            replace c131 := Bool.eq_false_iff.mpr c131
            subst c131
            rw [if_neg (show ¬ (false = true) by decide)] at H
            as_aux_lemma =>
             exact Bool.noConfusion ((Option.some.inj H).trans hr_.out)
          replace c129 := Bool.eq_false_iff.mpr c129
          subst c129
          rw [if_neg (show ¬ (false = true) by decide)] at H
          as_aux_lemma =>
           exact Bool.noConfusion ((Option.some.inj H).trans hr_.out)
        replace c126 := Bool.eq_false_iff.mpr c126
        subst c126
        rw [if_neg (show ¬ (false = true) by decide)] at H
        as_aux_lemma =>
         have H' := Aside0.mk H
         clear H
         go_wp2
         go_meet
         case rel => exact ⟨_, H', ⟨by have := HJ17.out; have := HJ54.out; have := HJ95.out; first | omega | exact Nat.le_refl _⟩, ⟨by repeat (first | (with_reducible first | exact HB.out | apply below_alloc | apply pw_below_drewN | apply below_drew1) | exact HB.out)⟩⟩
       case rest =>
        as_aux_lemma =>
        clear HC122
        (try clear c1);(try clear c2);(try clear p2);(try clear q2);(try clear hx2);(try clear qi2);(try clear c3);(try clear c4);(try clear c5);(try clear c6);(try clear p6);(try clear c7);(try clear c8);(try clear c9);(try clear c10);(try clear c11);(try clear c12);(try clear c13);(try clear c14);(try clear c15);(try clear c16);(try clear c17);(try clear c18);(try clear c21);(try clear c22);(try clear c23);(try clear c24);(try clear c25);(try clear c26);(try clear c27);(try clear c29);(try clear c29b0);(try clear c29b1);(try clear c29b2);(try clear p29);(try clear q29);(try clear hx29);(try clear qi29);(try clear c31);(try clear c32);(try clear c32b0);(try clear c32b1);(try clear c32b2);(try clear c33);(try clear c33b0);(try clear c33b1);(try clear c34);(try clear c34b0);(try clear c34b1);(try clear c34b2);(try clear c35);(try clear c35b0);(try clear c35b1);(try clear c36);(try clear c36b0);(try clear c36b1);(try clear c36b2);(try clear c37);(try clear c37b0);(try clear c37b1);(try clear c38);(try clear c38b0);(try clear c38b1);(try clear c38b2);(try clear c39);(try clear c39b0);(try clear c39b1);(try clear c40);(try clear c40b0);(try clear c40b1);(try clear c40b2);(try clear c41);(try clear c41b0);(try clear c41b1);(try clear c42);(try clear c42b0);(try clear c42b1);(try clear c43);(try clear c43b0);(try clear c43b1);(try clear c43b2);(try clear c44);(try clear c44b0);(try clear c44b1);(try clear c44b2);(try clear c45);(try clear c45b0);(try clear c45b1);(try clear c45b2);(try clear c46);(try clear c46b0);(try clear c46b1);(try clear c46b2);(try clear c47);(try clear c54);(try clear c56);(try clear c57);(try clear c57b0);(try clear c57b1);(try clear c59);(try clear c59b0);(try clear c59b1);(try clear c61);(try clear c61b0);(try clear c62);(try clear c62b0);(try clear c63);(try clear c63b0);(try clear p64);(try clear c65);(try clear c66);(try clear c66b0);(try clear c66b1);(try clear c67);(try clear c67b0);(try clear c68);(try clear c68b0);(try clear c69);(try clear c69b0);(try clear c69b1);(try clear c70);(try clear c70b0);(try clear c71);(try clear c71b0);(try clear c71b1);(try clear c73);(try clear c73b0);(try clear c77);(try clear c78);(try clear c78b0);(try clear c79);(try clear c79b0);(try clear c80);(try clear c81);(try clear c82);(try clear c82b0);(try clear c82b1);(try clear c87);(try clear c88);(try clear c88b0);(try clear c89);(try clear c89b0);(try clear c91);(try clear c92);(try clear c92b0);(try clear c97);(try clear c100);(try clear c100b0);(try clear c101);(try clear c101b0);(try clear c102);(try clear c102b0);(try clear c103);(try clear c103b0);(try clear c104);(try clear c105);(try clear c105b0);(try clear c105b1);(try clear c106);(try clear c107);(try clear c107b0);(try clear c110);(try clear c110b0);(try clear c111);(try clear c111b0);(try clear c111b1);(try clear c118);(try clear c118b0);(try clear c118b1);(try clear c118b2);(try clear c119);(try clear c119b0);(try clear c119b1);(try clear c120);(try clear c120b0);(try clear c120b1)
        (try clear c120b2);(try clear c121);(try clear c121b0);(try clear c121b1);(try clear c126);(try clear c129);(try clear c130);(try clear c130b0);(try clear c131);(try clear c132);(try clear c132b0);(try clear hx291_0);(try clear hx295_0);(try clear p2);(try clear p29);(try clear p291);(try clear p295);(try clear p6);(try clear p64);(try clear q2);(try clear q29);(try clear q291);(try clear q295)
        obtain ⟨kq, HA, HJ121, HB⟩ := hcut
        cases kq with
        | zero => exact absurd HA.out (by simp [laws_FnDigitsWritten.j6])
        | succ kj121 =>
         have H := HA.out
         clear HA
         simp only [laws_FnDigitsWritten.j6] at H
         have HC133 := Aside0.mk H
         clear H
         go_upto_region 70 with (fail)
         go_cut [505] from 501 to 505 (fun v505 wc => ∃ (kq : Nat) (x505_132 : Bool), v505 = .bool x505_132 ∧ Aside0 (laws_FnDigitsWritten.j7 kq t316 t317 t318 x505_132 = some r) ∧ Aside0 (kq ≤ kj121) ∧ Aside0 (Below w.heap.size w wc))
         case first =>
          as_aux_lemma =>
          have H := HC133.out
          clear HC133
          by_cases c134 : t319 = true
          · subst c134
            rw [if_pos rfl] at H
            as_aux_lemma =>
             have H' := Aside0.mk H
             clear H
             go_wp2
             go_meet
             case rel => exact ⟨_, (decide (t316 > 0)), z6_2_, H', ⟨by have := HJ17.out; have := HJ54.out; have := HJ95.out; have := HJ121.out; first | omega | exact Nat.le_refl _⟩, ⟨by repeat (first | (with_reducible first | exact HB.out | apply below_alloc | apply pw_below_drewN | apply below_drew1) | exact HB.out)⟩⟩
          replace c134 := Bool.eq_false_iff.mpr c134
          subst c134
          rw [if_neg (show ¬ (false = true) by decide)] at H
          as_aux_lemma =>
           have H' := Aside0.mk H
           clear H
           go_wp2
           go_meet
           case rel => exact ⟨_, (false), z6_2_, H', ⟨by have := HJ17.out; have := HJ54.out; have := HJ95.out; have := HJ121.out; first | omega | exact Nat.le_refl _⟩, ⟨by repeat (first | (with_reducible first | exact HB.out | apply below_alloc | apply pw_below_drewN | apply below_drew1) | exact HB.out)⟩⟩
         case rest =>
          as_aux_lemma =>
          clear HC133
          (try clear c1);(try clear c2);(try clear p2);(try clear q2);(try clear hx2);(try clear qi2);(try clear c3);(try clear c4);(try clear c5);(try clear c6);(try clear p6);(try clear c7);(try clear c8);(try clear c9);(try clear c10);(try clear c11);(try clear c12);(try clear c13);(try clear c14);(try clear c15);(try clear c16);(try clear c17);(try clear c18);(try clear c21);(try clear c22);(try clear c23);(try clear c24);(try clear c25);(try clear c26);(try clear c27);(try clear c29);(try clear c29b0);(try clear c29b1);(try clear c29b2);(try clear p29);(try clear q29);(try clear hx29);(try clear qi29);(try clear c31);(try clear c32);(try clear c32b0);(try clear c32b1);(try clear c32b2);(try clear c33);(try clear c33b0);(try clear c33b1);(try clear c34);(try clear c34b0);(try clear c34b1);(try clear c34b2);(try clear c35);(try clear c35b0);(try clear c35b1);(try clear c36);(try clear c36b0);(try clear c36b1);(try clear c36b2);(try clear c37);(try clear c37b0);(try clear c37b1);(try clear c38);(try clear c38b0);(try clear c38b1);(try clear c38b2);(try clear c39);(try clear c39b0);(try clear c39b1);(try clear c40);(try clear c40b0);(try clear c40b1);(try clear c40b2);(try clear c41);(try clear c41b0);(try clear c41b1);(try clear c42);(try clear c42b0);(try clear c42b1);(try clear c43);(try clear c43b0);(try clear c43b1);(try clear c43b2);(try clear c44);(try clear c44b0);(try clear c44b1);(try clear c44b2);(try clear c45);(try clear c45b0);(try clear c45b1);(try clear c45b2);(try clear c46);(try clear c46b0);(try clear c46b1);(try clear c46b2);(try clear c47);(try clear c54);(try clear c56);(try clear c57);(try clear c57b0);(try clear c57b1);(try clear c59);(try clear c59b0);(try clear c59b1);(try clear c61);(try clear c61b0);(try clear c62);(try clear c62b0);(try clear c63);(try clear c63b0);(try clear p64);(try clear c65);(try clear c66);(try clear c66b0);(try clear c66b1);(try clear c67);(try clear c67b0);(try clear c68);(try clear c68b0);(try clear c69);(try clear c69b0);(try clear c69b1);(try clear c70);(try clear c70b0);(try clear c71);(try clear c71b0);(try clear c71b1);(try clear c73);(try clear c73b0);(try clear c77);(try clear c78);(try clear c78b0);(try clear c79);(try clear c79b0);(try clear c80);(try clear c81);(try clear c82);(try clear c82b0);(try clear c82b1);(try clear c87);(try clear c88);(try clear c88b0);(try clear c89);(try clear c89b0);(try clear c91);(try clear c92);(try clear c92b0);(try clear c97);(try clear c100);(try clear c100b0);(try clear c101);(try clear c101b0);(try clear c102);(try clear c102b0);(try clear c103);(try clear c103b0);(try clear c104);(try clear c105);(try clear c105b0);(try clear c105b1);(try clear c106);(try clear c107);(try clear c107b0);(try clear c110);(try clear c110b0);(try clear c111);(try clear c111b0);(try clear c111b1);(try clear c118);(try clear c118b0);(try clear c118b1);(try clear c118b2);(try clear c119);(try clear c119b0);(try clear c119b1);(try clear c120);(try clear c120b0);(try clear c120b1)
          (try clear c120b2);(try clear c121);(try clear c121b0);(try clear c121b1);(try clear c126);(try clear c129);(try clear c130);(try clear c130b0);(try clear c131);(try clear c132);(try clear c132b0);(try clear c134);(try clear hx291_0);(try clear hx295_0);(try clear p2);(try clear p29);(try clear p291);(try clear p295);(try clear p6);(try clear p64);(try clear q2);(try clear q29);(try clear q291);(try clear q295)
          obtain ⟨kq, x505_132, rfl, HA, HJ132, HB⟩ := hcut
          cases kq with
          | zero => exact absurd HA.out (by simp [laws_FnDigitsWritten.j7])
          | succ kj132 =>
           have H := HA.out
           clear HA
           simp only [laws_FnDigitsWritten.j7] at H
           by_cases c135 : x505_132 = true
           · subst c135
             rw [if_pos rfl] at H
             replace H := Option.bind_eq_some_iff.mp H
             obtain ⟨⟨t326, t327⟩, A1360, H⟩ := H
             dsimp only at H
             have A136 := Aside0.mk A1360
             clear A1360
             have H' := Aside0.mk H
             clear H
             go_wp2_with (first | ((with_reducible refine gate_callee (f := 21) rfl ?_); refine goesL_ (some 510) rfl rfl Tryd.func21 (by kernel_rfl) rfl #[.int .i64 (wrap64 (t316 - 1)), .int .i64 t317] rfl z6_0_ ?_; (with_reducible refine (impl_CountDigit.calls kj132 (wrap64 (t316 - 1)) t317 t326 t327 _ A136.out).mono ?_); rintro e w' ⟨rfl, ⟨nd, rfl⟩⟩; refine ⟨_, rfl, ?_⟩))
             go_loopg [71, 72] kj132 (fun kq v71 v72 w' => ∃ (x71_6 : Int) (x72_6 : Int), v71 = .int .i64 x71_6 ∧ v72 = .int .i64 x72_6 ∧ Aside0 (laws_FnDigitsWritten.l2 kq t317 t318 t326 t327 x71_6 x72_6 = some r) ∧ Aside0 (kq ≤ kj132) ∧ Aside0 (Below w.heap.size w w'))
             case atStart => exact ⟨(0), (t316), z6_2_, z6_2_, H', ⟨Nat.le_refl _⟩, ⟨by repeat (first | (with_reducible first | exact HB.out | apply below_alloc | apply pw_below_drewN | apply below_drew1) | exact HB.out)⟩⟩
             case round =>
              clear H'
              (try clear c1);(try clear c2);(try clear p2);(try clear q2);(try clear hx2);(try clear qi2);(try clear c3);(try clear c4);(try clear c5);(try clear c6);(try clear p6);(try clear c7);(try clear c8);(try clear c9);(try clear c10);(try clear c11);(try clear c12);(try clear c13);(try clear c14);(try clear c15);(try clear c16);(try clear c17);(try clear c18);(try clear c21);(try clear c22);(try clear c23);(try clear c24);(try clear c25);(try clear c26);(try clear c27);(try clear c29);(try clear c29b0);(try clear c29b1);(try clear c29b2);(try clear p29);(try clear q29);(try clear hx29);(try clear qi29);(try clear c31);(try clear c32);(try clear c32b0);(try clear c32b1);(try clear c32b2);(try clear c33);(try clear c33b0);(try clear c33b1);(try clear c34);(try clear c34b0);(try clear c34b1);(try clear c34b2);(try clear c35);(try clear c35b0);(try clear c35b1);(try clear c36);(try clear c36b0);(try clear c36b1);(try clear c36b2);(try clear c37);(try clear c37b0);(try clear c37b1);(try clear c38);(try clear c38b0);(try clear c38b1);(try clear c38b2);(try clear c39);(try clear c39b0);(try clear c39b1);(try clear c40);(try clear c40b0);(try clear c40b1);(try clear c40b2);(try clear c41);(try clear c41b0);(try clear c41b1);(try clear c42);(try clear c42b0);(try clear c42b1);(try clear c43);(try clear c43b0);(try clear c43b1);(try clear c43b2);(try clear c44);(try clear c44b0);(try clear c44b1);(try clear c44b2);(try clear c45);(try clear c45b0);(try clear c45b1);(try clear c45b2);(try clear c46);(try clear c46b0);(try clear c46b1);(try clear c46b2);(try clear c47);(try clear c54);(try clear c56);(try clear c57);(try clear c57b0);(try clear c57b1);(try clear c59);(try clear c59b0);(try clear c59b1);(try clear c61);(try clear c61b0);(try clear c62);(try clear c62b0);(try clear c63);(try clear c63b0);(try clear p64);(try clear c65);(try clear c66);(try clear c66b0);(try clear c66b1);(try clear c67);(try clear c67b0);(try clear c68);(try clear c68b0);(try clear c69);(try clear c69b0);(try clear c69b1);(try clear c70);(try clear c70b0);(try clear c71);(try clear c71b0);(try clear c71b1);(try clear c73);(try clear c73b0);(try clear c77);(try clear c78);(try clear c78b0);(try clear c79);(try clear c79b0);(try clear c80);(try clear c81);(try clear c82);(try clear c82b0);(try clear c82b1);(try clear c87);(try clear c88);(try clear c88b0);(try clear c89);(try clear c89b0);(try clear c91);(try clear c92);(try clear c92b0);(try clear c97);(try clear c100);(try clear c100b0);(try clear c101);(try clear c101b0);(try clear c102);(try clear c102b0);(try clear c103);(try clear c103b0);(try clear c104);(try clear c105);(try clear c105b0);(try clear c105b1);(try clear c106);(try clear c107);(try clear c107b0);(try clear c110);(try clear c110b0);(try clear c111);(try clear c111b0);(try clear c111b1);(try clear c118);(try clear c118b0);(try clear c118b1);(try clear c118b2);(try clear c119);(try clear c119b0);(try clear c119b1);(try clear c120);(try clear c120b0);(try clear c120b1)
              (try clear c120b2);(try clear c121);(try clear c121b0);(try clear c121b1);(try clear c126);(try clear c129);(try clear c130);(try clear c130b0);(try clear c131);(try clear c132);(try clear c132b0);(try clear c134);(try clear c135);(try clear hx291_0);(try clear hx295_0);(try clear p2);(try clear p29);(try clear p291);(try clear p295);(try clear p6);(try clear p64);(try clear q2);(try clear q29);(try clear q291);(try clear q295)
              obtain ⟨x71_6, x72_6, rfl, rfl, HA, HK6, HB⟩ := hrel
              cases gk with
              | zero => exact absurd HA.out (by simp [laws_FnDigitsWritten.l2])
              | succ k6 =>
               have H := HA.out
               clear HA
               simp only [laws_FnDigitsWritten.l2] at H
               by_cases c137 : x72_6 > 0
               · rw [if_pos c137] at H
                 have c137b0 : decide (0 < x72_6) = true := decide_eq_true c137
                 clear c137
                 by_cases c138 : (Int.tmod x72_6 10) = t317
                 · rw [if_pos c138] at H
                   have c138b0 : ((Int.tmod x72_6 10) == t317) = true := beq_iff_eq.mpr c138
                   have c138b1 : ((Int.tmod x72_6 10) != t317) = false := bne_eq_false_iff_eq.mpr c138
                   clear c138
                   as_aux_lemma =>
                    have H' := Aside0.mk H
                    clear H
                    go_wp2
                    go_roundg k6
                    case measure => have := HJ17.out; have := HJ54.out; have := HJ95.out; have := HJ121.out; have := HJ132.out; have := HK6.out; omega
                    case rel => exact ⟨(wrap64 (x71_6 + 1)), (wrap64 (Int.tdiv x72_6 10)), z6_2_, z6_2_, H', ⟨by have := HJ17.out; have := HJ54.out; have := HJ95.out; have := HJ121.out; have := HJ132.out; have := HK6.out; omega⟩, ⟨by repeat (first | (with_reducible first | exact HB.out | apply below_alloc | apply pw_below_drewN | apply below_drew1) | exact HB.out)⟩⟩
                 rw [if_neg c138] at H
                 have c138b0 : ((Int.tmod x72_6 10) == t317) = false := beq_eq_false_iff_ne.mpr c138
                 have c138b1 : ((Int.tmod x72_6 10) != t317) = true := bne_iff_ne.mpr c138
                 as_aux_lemma =>
                  have H' := Aside0.mk H
                  clear H
                  go_wp2
                  go_roundg k6
                  case measure => have := HJ17.out; have := HJ54.out; have := HJ95.out; have := HJ121.out; have := HJ132.out; have := HK6.out; omega
                  case rel => exact ⟨(x71_6), (wrap64 (Int.tdiv x72_6 10)), z6_2_, z6_2_, H', ⟨by have := HJ17.out; have := HJ54.out; have := HJ95.out; have := HJ121.out; have := HJ132.out; have := HK6.out; omega⟩, ⟨by repeat (first | (with_reducible first | exact HB.out | apply below_alloc | apply pw_below_drewN | apply below_drew1) | exact HB.out)⟩⟩
               rw [if_neg c137] at H
               have c137b0 : decide (0 < x72_6) = false := decide_eq_false c137
               clear c137
               as_aux_lemma =>
               by_cases c139 : t327 = true
               · subst c139
                 rw [if_pos rfl] at H
                 by_cases c140 : (wrap64 (t318 - t326)) = x71_6
                 rotate_left
                 · exact dead_ (if_neg c140) H hr_
                 rw [if_pos c140] at H
                 have c140b0 : ((wrap64 (t318 - t326)) == x71_6) = true := beq_iff_eq.mpr c140
                 have c140b1 : ((wrap64 (t318 - t326)) != x71_6) = false := bne_eq_false_iff_eq.mpr c140
                 clear c140
                 as_aux_lemma =>
                  obtain rfl := Option.some.inj H
                  go_wp2
                  go_ret
                  exact ⟨by first | rfl | (simp [errW_none, errW_some] <;> rfl) | (simp [*, errW_none, errW_some] <;> rfl), by repeat (first | (with_reducible first | exact HB.out | apply below_alloc | apply pw_below_drewN | apply below_drew1) | exact HB.out)⟩
               replace c139 := Bool.eq_false_iff.mpr c139
               subst c139
               rw [if_neg (show ¬ (false = true) by decide)] at H
               as_aux_lemma =>
                exact Bool.noConfusion ((Option.some.inj H).trans hr_.out)
           replace c135 := Bool.eq_false_iff.mpr c135
           subst c135
           rw [if_neg (show ¬ (false = true) by decide)] at H
           as_aux_lemma =>
            obtain rfl := Option.some.inj H
            go_wp2
            go_ret
            exact ⟨by first | rfl | (simp [errW_none, errW_some] <;> rfl) | (simp [*, errW_none, errW_some] <;> rfl), by repeat (first | (with_reducible first | exact HB.out | apply below_alloc | apply pw_below_drewN | apply below_drew1) | exact HB.out)⟩

/-- THE ONE PURE STATEMENT of laws_FnDigitsWritten: yours. -/
def laws_FnDigitsWritten.Pure : Prop := ∀ (l0 : List Int) (l1 : List Int), l0.length ≤ maxLen → l0.length * 1 ≤ 140737488351232 → (∀ x ∈ l0, (Lit.int .u8 x).wf = true) → l1.length ≤ maxLen → l1.length * 1 ≤ 140737488351232 → (∀ x ∈ l1, (Lit.int .u8 x).wf = true) → ∃ k, laws_FnDigitsWritten.f k l0 l1 = some true
theorem laws_FnDigitsWritten.walk (P : laws_FnDigitsWritten.Pure) (a0 : Option Addr) (len0 cap0 : Nat) (z0 : List Int) (a1 : Option Addr) (len1 cap1 : Nat) (z1 : List Int) (w : World) (hT : Shelf.TabOk w) (w0 : (a0 = none ∧ len0 = 0 ∧ cap0 = 0 ∧ z0 = []) ∨ ∃ x, a0 = some x ∧ len0 ≤ cap0 ∧ cap0 ≤ maxLen ∧ z0.length = cap0 ∧ (∀ i, i < z0.length → w.cell? (x.add i) = some (.int .u8 (z0.getD i 0))) ∧ ∀ n ∈ z0, (Lit.int .u8 n).wf = true) (y0 : len0 * 1 ≤ 140737488351232) (w1 : (a1 = none ∧ len1 = 0 ∧ cap1 = 0 ∧ z1 = []) ∨ ∃ x, a1 = some x ∧ len1 ≤ cap1 ∧ cap1 ≤ maxLen ∧ z1.length = cap1 ∧ (∀ i, i < z1.length → w.cell? (x.add i) = some (.int .u8 (z1.getD i 0))) ∧ ∀ n ∈ z1, (Lit.int .u8 n).wf = true) (y1 : len1 * 1 ≤ 140737488351232) :
 Calls Tryd.prog 3 #[.slice a0 len0 cap0, .slice a1 len1 cap1] w fun e w' => e = .returned (.bool true) ∧ Below w.heap.size w w' := by
 obtain ⟨l0, rfl, hr0, hm0, hw0, hc0⟩ := ReadsInt.ofRowC w0
 obtain ⟨l1, rfl, hr1, hm1, hw1, hc1⟩ := ReadsInt.ofRowC w1
 obtain ⟨k, h⟩ := P l0 l1 hm0 y0 hw0 hm1 y1 hw1
 refine (laws_FnDigitsWritten.calls k _ _ l0 _ _ l1 true w hT (Kd.C_of_reads (d := (0 : Int)) (h1 := fun _ => rfl) hr0) hc0 (Kd.C_of_reads (d := (0 : Int)) (h1 := fun _ => rfl) hr1) hc1 (Aside0.mk rfl) h).mono ?_
 rintro e w' ⟨rfl, hd⟩
 exact ⟨rfl, hd⟩

end Go.Proofs.YtiobgaeambfcbaaDoor.PFnDigitsWritten

-- Laid by this session's program gprint.py over the kit's print.
import Derived.Test.YtogonichanoeaaaGreatDoorPFnLeastOfSumsx0
import Derived.Test.YtogonichanoeaaaGreatDoorPFnLeastOfSumsx1
import Derived.Test.YtogonichanoeaaaGreatDoorPFnLeastOfSumsx2
import Derived.Test.YtogonichanoeaaaGreatDoorPFnLeastOfSumsx3
import Derived.Test.YtogonichanoeaaaGreatDoorPFnLeastOfSumsx4
import Derived.Test.YtogonichanoeaaaGreatDoorPFnLeastOfSumsx5
import Derived.Test.YtogonichanoeaaaGreatDoorPFnLeastOfSumsx6
import Derived.Test.YtogonichanoeaaaGreatDoorPFnLeastOfSumsx7
import Derived.Test.YtogonichanoeaaaGreatDoorPFnLeastOfSumsx8
import Derived.Test.YtogonichanoeaaaGreatDoorPFnLeastOfSumsx9
namespace Go.Proofs.YtogonichanoeaaaGreatDoor.PFnLeastOfSums
open Go.RowKit Go.Proofs.YtogonichanoeaaaGreatDoorW.PrintWords Go.Proofs.YtogonichanoeaaaGreatDoorW.PrintLast Go.Proofs.YtogonichanoeaaaGreatDoorW.PrintMore
attribute [local go_sem] max2_int min2_int max_two min_two max_three min_three max_four min_four   -- for this text's walks alone
set_option linter.unusedVariables false
set_option linter.unusedSimpArgs false
theorem undef_bool_ {b : Bool} (h : some undef = some (Value.bool b)) : False := by cases h
theorem dead2_ {r : Bool} {P : Prop} (H : some false = some r) (h : Aside0 (r = true)) : P := Bool.noConfusion ((Option.some.inj H).trans h.out)
theorem z10_0_ {p : Prop} (h : p := by (try simp only [List.map_toArray, List.map_cons, List.map_nil]); first | done | rfl | (simp only [List.length_drop, List.length_take]; rfl)) : p := h
theorem z10_1_ {p : Prop} (h : p := by repeat (first | (with_reducible first | exact HB.out | apply below_alloc | apply pw_below_drewN | apply below_drew1) | exact HB.out)) : p := h
theorem z10_2_ {p : Prop} (h : p := by first | rfl | (simp; done) | (simp [*]; done)) : p := h

/-! ### laws_FnLeastOfSums: function 3 -/
mutual
def laws_FnLeastOfSums.j0 : Nat → List Int → Int → Int → Bool → Option (Bool)
 | 0, _, _, _, _ => none
 | k + 1, x1, x5, x10, x11 => if x11 = true then ((impl_NextWithSum.f k x10).bind fun bt374 => (if x10 ≥ x5 then (some false) else (if x10 < 0 then (some false) else ((laws_iSum.f k x10).bind fun t378 => ((laws_iSum.f k x5).bind fun t379 => (if t378 = t379 then (if bt374.2 = true then (if bt374.1 = x5 then (laws_FnLeastOfSums.j1 k x1) else (some false)) else (some false)) else (some false))))))) else (laws_FnLeastOfSums.j1 k x1)
def laws_FnLeastOfSums.j1 : Nat → List Int → Option (Bool)
 | 0, _ => none
 | k + 1, x1 => (spec_DrawLeastWithSum.f x1).bind fun t380 => ((impl_LeastWithSum.f k t380).bind fun bt381 => ((spec_LeastWithSum.f k t380).bind fun bt383 => ((spec_DrawCountOfDigits.f x1).bind fun bt385 => ((impl_LeastOfDigits.f k bt385.1 bt385.2).bind fun bt387 => ((spec_LeastOfDigits.f k bt385.1 bt385.2).bind fun bt389 => ((impl_GreatestOfDigits.f k bt385.1 bt385.2).bind fun bt391 => ((spec_GreatestOfDigits.f k bt385.1 bt385.2).bind fun bt393 => ((impl_CountOfDigits.f k bt385.1 bt385.2).bind fun bt395 => ((spec_CountOfDigits.f k bt385.1 bt385.2).bind fun bt397 => ((spec_DrawSumDivides.f x1).bind fun t399 => ((impl_SumDivides.f k t399).bind fun bt400 => ((spec_SumDivides.f k t399).bind fun bt402 => ((spec_DrawLeastBoth.f k x1).bind fun bt404 => ((impl_LeastBoth.f k bt404.1 bt404.2).bind fun bt406 => ((spec_LeastBoth.f k bt404.1 bt404.2).bind fun bt408 => (if (bt381.2 != bt383.2) = true then (laws_FnLeastOfSums.j2 k t380 bt381.1 bt381.2 bt385.1 bt385.2 bt387.1 bt387.2 bt391.1 bt395.1 t399 bt400.1 bt400.2 bt404.1 bt404.2 bt406.1 bt406.2 true) else (if bt381.1 = bt383.1 then (if (bt387.2 != bt389.2) = true then (laws_FnLeastOfSums.j2 k t380 bt381.1 bt381.2 bt385.1 bt385.2 bt387.1 bt387.2 bt391.1 bt395.1 t399 bt400.1 bt400.2 bt404.1 bt404.2 bt406.1 bt406.2 true) else (if bt387.1 = bt389.1 then (if (bt391.2 != bt393.2) = true then (laws_FnLeastOfSums.j2 k t380 bt381.1 bt381.2 bt385.1 bt385.2 bt387.1 bt387.2 bt391.1 bt395.1 t399 bt400.1 bt400.2 bt404.1 bt404.2 bt406.1 bt406.2 true) else (if bt391.1 = bt393.1 then (if (bt395.2 != bt397.2) = true then (laws_FnLeastOfSums.j2 k t380 bt381.1 bt381.2 bt385.1 bt385.2 bt387.1 bt387.2 bt391.1 bt395.1 t399 bt400.1 bt400.2 bt404.1 bt404.2 bt406.1 bt406.2 true) else (if bt395.1 = bt397.1 then (if (bt400.2 != bt402.2) = true then (laws_FnLeastOfSums.j2 k t380 bt381.1 bt381.2 bt385.1 bt385.2 bt387.1 bt387.2 bt391.1 bt395.1 t399 bt400.1 bt400.2 bt404.1 bt404.2 bt406.1 bt406.2 true) else (if bt400.1 = bt402.1 then (if (bt406.2 != bt408.2) = true then (laws_FnLeastOfSums.j2 k t380 bt381.1 bt381.2 bt385.1 bt385.2 bt387.1 bt387.2 bt391.1 bt395.1 t399 bt400.1 bt400.2 bt404.1 bt404.2 bt406.1 bt406.2 true) else (if bt406.1 = bt408.1 then (if (bt391.2 != bt387.2) = true then (laws_FnLeastOfSums.j2 k t380 bt381.1 bt381.2 bt385.1 bt385.2 bt387.1 bt387.2 bt391.1 bt395.1 t399 bt400.1 bt400.2 bt404.1 bt404.2 bt406.1 bt406.2 true) else (if bt395.2 = true then (laws_FnLeastOfSums.j2 k t380 bt381.1 bt381.2 bt385.1 bt385.2 bt387.1 bt387.2 bt391.1 bt395.1 t399 bt400.1 bt400.2 bt404.1 bt404.2 bt406.1 bt406.2 (bt387.2 != (decide (bt395.1 > 0)))) else (laws_FnLeastOfSums.j2 k t380 bt381.1 bt381.2 bt385.1 bt385.2 bt387.1 bt387.2 bt391.1 bt395.1 t399 bt400.1 bt400.2 bt404.1 bt404.2 bt406.1 bt406.2 (bt387.2 != false)))) else (laws_FnLeastOfSums.j2 k t380 bt381.1 bt381.2 bt385.1 bt385.2 bt387.1 bt387.2 bt391.1 bt395.1 t399 bt400.1 bt400.2 bt404.1 bt404.2 bt406.1 bt406.2 true))) else (laws_FnLeastOfSums.j2 k t380 bt381.1 bt381.2 bt385.1 bt385.2 bt387.1 bt387.2 bt391.1 bt395.1 t399 bt400.1 bt400.2 bt404.1 bt404.2 bt406.1 bt406.2 true))) else (laws_FnLeastOfSums.j2 k t380 bt381.1 bt381.2 bt385.1 bt385.2 bt387.1 bt387.2 bt391.1 bt395.1 t399 bt400.1 bt400.2 bt404.1 bt404.2 bt406.1 bt406.2 true))) else (laws_FnLeastOfSums.j2 k t380 bt381.1 bt381.2 bt385.1 bt385.2 bt387.1 bt387.2 bt391.1 bt395.1 t399 bt400.1 bt400.2 bt404.1 bt404.2 bt406.1 bt406.2 true))) else (laws_FnLeastOfSums.j2 k t380 bt381.1 bt381.2 bt385.1 bt385.2 bt387.1 bt387.2 bt391.1 bt395.1 t399 bt400.1 bt400.2 bt404.1 bt404.2 bt406.1 bt406.2 true))) else (laws_FnLeastOfSums.j2 k t380 bt381.1 bt381.2 bt385.1 bt385.2 bt387.1 bt387.2 bt391.1 bt395.1 t399 bt400.1 bt400.2 bt404.1 bt404.2 bt406.1 bt406.2 true))))))))))))))))))
def laws_FnLeastOfSums.j2 : Nat → Int → Int → Bool → Int → Int → Int → Bool → Int → Int → Int → Int → Bool → Int → Int → Int → Bool → Bool → Option (Bool)
 | 0, _, _, _, _, _, _, _, _, _, _, _, _, _, _, _, _, _ => none
 | k + 1, x18, x19, x20, x23, x24, x25, x26, x29, x33, x37, x38, x39, x42, x43, x44, x45, x309 => if x309 = true then (some false) else (if x20 = true then ((impl_LastWithSum.f k x19).bind fun bt410 => ((laws_iSum.f k x19).bind fun t413 => (if t413 = x18 then (if bt410.2 = true then (some false) else (laws_FnLeastOfSums.j3 k x23 x24 x25 x26 x29 x33 x37 x38 x39 x42 x43 x44 x45)) else (some false)))) else (laws_FnLeastOfSums.j3 k x23 x24 x25 x26 x29 x33 x37 x38 x39 x42 x43 x44 x45))
def laws_FnLeastOfSums.j3 : Nat → Int → Int → Int → Bool → Int → Int → Int → Int → Bool → Int → Int → Int → Bool → Option (Bool)
 | 0, _, _, _, _, _, _, _, _, _, _, _, _, _ => none
 | k + 1, x23, x24, x25, x26, x29, x33, x37, x38, x39, x42, x43, x44, x45 => if x26 = true then ((laws_iSum.f k x25).bind fun t416 => (if t416 = x24 then ((laws_iSum.f k x29).bind fun t417 => (if t417 = x24 then (if x25 > x29 then (some false) else (if ((x33 == 1) != (x25 == x29)) = true then (some false) else (laws_FnLeastOfSums.l0 k x23 x25 x29 x37 x38 x39 x42 x43 x44 x45 1 1))) else (some false))) else (some false))) else (laws_FnLeastOfSums.j5 k x37 x38 x39 x42 x43 x44 x45)
def laws_FnLeastOfSums.j5 : Nat → Int → Int → Bool → Int → Int → Int → Bool → Option (Bool)
 | 0, _, _, _, _, _, _, _ => none
 | k + 1, x37, x38, x39, x42, x43, x44, x45 => if x39 = true then (if x38 < x37 then (some false) else (if x38 < 1 then (some false) else ((laws_iSum.f k x38).bind fun t419 => (if t419 = 0 then (none) else (if (Int.tmod x38 t419) = 0 then (laws_FnLeastOfSums.l1 k x38 x42 x43 x44 x45 x37) else (some false)))))) else (laws_FnLeastOfSums.j7 k x42 x43 x44 x45)
def laws_FnLeastOfSums.j7 : Nat → Int → Int → Int → Bool → Option (Bool)
 | 0, _, _, _, _ => none
 | k + 1, x42, x43, x44, x45 => if x45 = true then ((impl_ProductOfDigits.f k x44).bind fun bt422 => ((impl_LeastWithProduct.f k x43).bind fun bt424 => ((impl_LeastWithSum.f k x42).bind fun bt426 => (if bt422.2 = true then (if bt422.1 = x43 then ((laws_iSum.f k x44).bind fun t429 => (if t429 = x42 then (if bt424.2 = true then (if x44 < bt424.1 then (some false) else (if bt426.2 = true then (if x44 < bt426.1 then (some false) else (some true)) else (some false))) else (some false)) else (some false))) else (some false)) else (some false))))) else (some true)
def laws_FnLeastOfSums.l1 : Nat → Int → Int → Int → Int → Bool → Int → Option (Bool)
 | 0, _, _, _, _, _, _ => none
 | k + 1, x38, x42, x43, x44, x45, x52 => if x52 < x38 then (if x52 > 0 then ((laws_iSum.f k x52).bind fun t421 => (if t421 = 0 then (none) else (if (Int.tmod x52 t421) = 0 then (some false) else (laws_FnLeastOfSums.l1 k x38 x42 x43 x44 x45 (wrap64 (x52 + 1)))))) else (laws_FnLeastOfSums.l1 k x38 x42 x43 x44 x45 (wrap64 (x52 + 1)))) else (laws_FnLeastOfSums.j7 k x42 x43 x44 x45)
def laws_FnLeastOfSums.l0 : Nat → Int → Int → Int → Int → Int → Bool → Int → Int → Int → Bool → Int → Int → Option (Bool)
 | 0, _, _, _, _, _, _, _, _, _, _, _, _ => none
 | k + 1, x23, x25, x29, x37, x38, x39, x42, x43, x44, x45, x50, x51 => if x51 < x23 then (laws_FnLeastOfSums.l0 k x23 x25 x29 x37 x38 x39 x42 x43 x44 x45 (wrap64 (x50 * 10)) (wrap64 (x51 + 1))) else (if x23 > 1 then (if x25 < x50 then (some false) else (if x50 = 0 then (none) else (if (wrap64 (Int.tdiv x29 x50)) > 9 then (some false) else (laws_FnLeastOfSums.j5 k x37 x38 x39 x42 x43 x44 x45)))) else (if x50 = 0 then (none) else (if (wrap64 (Int.tdiv x29 x50)) > 9 then (some false) else (laws_FnLeastOfSums.j5 k x37 x38 x39 x42 x43 x44 x45))))
end
def laws_FnLeastOfSums.f (k : Nat) (l0 : List Int) (l1 : List Int) : Option (Bool) := (laws_big.f l0 l1).bind fun t358 => (if t358 = true then (some true) else ((spec_DrawNextWithSum.f l0).bind fun t359 => ((impl_NextWithSum.f k t359).bind fun bt360 => ((spec_NextWithSum.f k t359).bind fun bt362 => ((impl_LastWithSum.f k t359).bind fun bt364 => ((spec_LastWithSum.f k t359).bind fun bt366 => (if (bt360.2 != bt362.2) = true then (some false) else (if bt360.1 = bt362.1 then (if (bt364.2 != bt366.2) = true then (some false) else (if bt364.1 = bt366.1 then (if bt360.2 = true then ((impl_LastWithSum.f k bt360.1).bind fun bt368 => (if bt360.1 ≤ t359 then (some false) else ((laws_iSum.f k bt360.1).bind fun t372 => ((laws_iSum.f k t359).bind fun t373 => (if t372 = t373 then (if bt368.2 = true then (if bt368.1 = t359 then (laws_FnLeastOfSums.j0 k l1 t359 bt364.1 bt364.2) else (some false)) else (some false)) else (some false)))))) else (laws_FnLeastOfSums.j0 k l1 t359 bt364.1 bt364.2)) else (some false))) else (some false)))))))))
theorem laws_FnLeastOfSums.j2_dead {k : Nat} {x18 : Int} {x19 : Int} {x20 : Bool} {x23 : Int} {x24 : Int} {x25 : Int} {x26 : Bool} {x29 : Int} {x33 : Int} {x37 : Int} {x38 : Int} {x39 : Bool} {x42 : Int} {x43 : Int} {x44 : Int} {x45 : Bool} {r : Bool} {P : Prop} (H : laws_FnLeastOfSums.j2 k x18 x19 x20 x23 x24 x25 x26 x29 x33 x37 x38 x39 x42 x43 x44 x45 true = some r) (h : Aside0 (r = true)) : P := by
 cases k with
 | zero => exact none_ (by simp only [laws_FnLeastOfSums.j2]) H
 | succ k => exact dead_ (by simp only [laws_FnLeastOfSums.j2]; first | exact if_pos rfl | exact if_pos trivial) H h
set_option maxHeartbeats 64000000 in
set_option maxRecDepth 100000 in
theorem laws_FnLeastOfSums.calls (k : Nat) (A0 : Option Addr) (c0 : Nat) (l0 : List Int) (A1 : Option Addr) (c1 : Nat) (l1 : List Int) (r : Bool) (w : World) (hT : Shelf.TabOk w) (hr0 : Kd.C (Kd.int .u8) w A0 l0.length l0) (hc0 : l0.length ≤ c0) (hr1 : Kd.C (Kd.int .u8) w A1 l1.length l1) (hc1 : l1.length ≤ c1) (hr_ : Aside0 (r = true)) (h : laws_FnLeastOfSums.f k l0 l1 = some r) :
 Calls Tryz.prog 3 #[.slice A0 l0.length c0, .slice A1 l1.length c1] w fun e w' => e = .returned (.bool r) ∧ Below w.heap.size w w' := by
 have HR0 := Aside0.mk hr0
 have HC0 := Aside0.mk hc0
 clear hr0 hc0
 have HR1 := Aside0.mk hr1
 have HC1 := Aside0.mk hc1
 clear hr1 hc1
 have HT := Aside0.mk hT
 clear hT
 have HB := Aside0.mk (Below.refl w.heap.size w)
 have H : ((laws_big.f l0 l1).bind fun t358 => (if t358 = true then (some true) else ((spec_DrawNextWithSum.f l0).bind fun t359 => ((impl_NextWithSum.f k t359).bind fun bt360 => ((spec_NextWithSum.f k t359).bind fun bt362 => ((impl_LastWithSum.f k t359).bind fun bt364 => ((spec_LastWithSum.f k t359).bind fun bt366 => (if (bt360.2 != bt362.2) = true then (some false) else (if bt360.1 = bt362.1 then (if (bt364.2 != bt366.2) = true then (some false) else (if bt364.1 = bt366.1 then (if bt360.2 = true then ((impl_LastWithSum.f k bt360.1).bind fun bt368 => (if bt360.1 ≤ t359 then (some false) else ((laws_iSum.f k bt360.1).bind fun t372 => ((laws_iSum.f k t359).bind fun t373 => (if t372 = t373 then (if bt368.2 = true then (if bt368.1 = t359 then (laws_FnLeastOfSums.j0 k l1 t359 bt364.1 bt364.2) else (some false)) else (some false)) else (some false)))))) else (laws_FnLeastOfSums.j0 k l1 t359 bt364.1 bt364.2)) else (some false))) else (some false)))))))))) = some r := h
 clear h
 replace H := Option.bind_eq_some_iff.mp H
 obtain ⟨t358, A30, H⟩ := H
 have A3 := Aside0.mk A30
 clear A30
 by_cases c4 : t358 = true
 · subst c4
   rw [if_pos rfl] at H
   as_aux_lemma =>
    obtain rfl := Option.some.inj H
    go_enter Tryz.func3, Tryz.ntmps3
    go_wp2_with (first | ((with_reducible refine gate_callee (f := 5) rfl ?_); refine goesL_ (some 61) rfl rfl Tryz.func5 (by kernel_rfl) rfl #[.slice A0 l0.length c0, .slice A1 l1.length c1] rfl z10_0_ ?_; (with_reducible refine (laws_big.calls _ _ l0 _ _ l1 true _ ?side1 ?side2 ?side3 ?side4 A3.out).mono ?_); (case side1 => repeat (first | exact HR0.out | (with_reducible refine Kd.C_alloc ?_ _) | (with_reducible refine Kd.C_drewN ?_ _) | (with_reducible refine Kd.C_drew ?_))); (case side2 => exact HC0.out); (case side3 => repeat (first | exact HR1.out | (with_reducible refine Kd.C_alloc ?_ _) | (with_reducible refine Kd.C_drewN ?_ _) | (with_reducible refine Kd.C_drew ?_))); (case side4 => exact HC1.out); rintro e w' ⟨rfl, ⟨nd, rfl⟩⟩; refine ⟨_, rfl, ?_⟩))
    go_ret
    exact ⟨by first | exact rfl | (simp [errW_none, errW_some] <;> rfl) | (simp [*, errW_none, errW_some] <;> rfl), by repeat (first | (with_reducible first | exact HB.out | apply below_alloc | apply pw_below_drewN | apply below_drew1) | exact HB.out)⟩
 replace c4 := Bool.eq_false_iff.mpr c4
 subst c4
 rw [if_neg (show ¬ (false = true) by decide)] at H
 as_aux_lemma =>
 replace H := Option.bind_eq_some_iff.mp H
 obtain ⟨t359, A50, H⟩ := H
 have A5 := Aside0.mk A50
 clear A50
 replace H := Option.bind_eq_some_iff.mp H
 obtain ⟨⟨t360, t361⟩, A60, H⟩ := H
 dsimp only at H
 have A6 := Aside0.mk A60
 clear A60
 replace H := Option.bind_eq_some_iff.mp H
 obtain ⟨⟨t362, t363⟩, A70, H⟩ := H
 dsimp only at H
 have A7 := Aside0.mk A70
 clear A70
 replace H := Option.bind_eq_some_iff.mp H
 obtain ⟨⟨t364, t365⟩, A80, H⟩ := H
 dsimp only at H
 have A8 := Aside0.mk A80
 clear A80
 replace H := Option.bind_eq_some_iff.mp H
 obtain ⟨⟨t366, t367⟩, A90, H⟩ := H
 dsimp only at H
 have A9 := Aside0.mk A90
 clear A90
 by_cases c10 : (t361 != t363) = true
 · exact dead_ (if_pos c10) H hr_
 rw [if_neg c10] at H
 have c10b0 : (t361 != t363) = false := by simpa using c10
 (try (have c10b1 : decide (t361 = t363) = true := by simpa using c10))
 (try (have c10b2 : (t361 == t363) = true := by simpa using c10))
 clear c10
 as_aux_lemma =>
 by_cases c11 : t360 = t362
 rotate_left
 · exact dead_ (if_neg c11) H hr_
 rw [if_pos c11] at H
 have c11b0 : (t360 == t362) = true := beq_iff_eq.mpr c11
 have c11b1 : (t360 != t362) = false := bne_eq_false_iff_eq.mpr c11
 clear c11
 by_cases c12 : (t365 != t367) = true
 · exact dead_ (if_pos c12) H hr_
 rw [if_neg c12] at H
 have c12b0 : (t365 != t367) = false := by simpa using c12
 (try (have c12b1 : decide (t365 = t367) = true := by simpa using c12))
 (try (have c12b2 : (t365 == t367) = true := by simpa using c12))
 clear c12
 by_cases c13 : t364 = t366
 rotate_left
 · exact dead_ (if_neg c13) H hr_
 rw [if_pos c13] at H
 have c13b0 : (t364 == t366) = true := beq_iff_eq.mpr c13
 have c13b1 : (t364 != t366) = false := bne_eq_false_iff_eq.mpr c13
 clear c13
 have HC14 := Aside0.mk H
 clear H
 go_enter Tryz.func3, Tryz.ntmps3
 go_upto_if 102 with (first | ((with_reducible refine gate_callee (f := 5) rfl ?_); refine goesL_ (some 61) rfl rfl Tryz.func5 (by kernel_rfl) rfl #[.slice A0 l0.length c0, .slice A1 l1.length c1] rfl z10_0_ ?_; (with_reducible refine (laws_big.calls _ _ l0 _ _ l1 false _ ?side1 ?side2 ?side3 ?side4 A3.out).mono ?_); (case side1 => repeat (first | exact HR0.out | (with_reducible refine Kd.C_alloc ?_ _) | (with_reducible refine Kd.C_drewN ?_ _) | (with_reducible refine Kd.C_drew ?_))); (case side2 => exact HC0.out); (case side3 => repeat (first | exact HR1.out | (with_reducible refine Kd.C_alloc ?_ _) | (with_reducible refine Kd.C_drewN ?_ _) | (with_reducible refine Kd.C_drew ?_))); (case side4 => exact HC1.out); rintro e w' ⟨rfl, ⟨nd, rfl⟩⟩; refine ⟨_, rfl, ?_⟩) | ((with_reducible refine gate_callee (f := 6) rfl ?_); refine goesL_ (some 63) rfl rfl Tryz.func6 (by kernel_rfl) rfl #[.slice A0 l0.length c0] rfl z10_0_ ?_; (with_reducible refine (spec_DrawNextWithSum.calls _ _ l0 t359 _ ?side1 ?side2 A5.out).mono ?_); (case side1 => repeat (first | exact HR0.out | (with_reducible refine Kd.C_alloc ?_ _) | (with_reducible refine Kd.C_drewN ?_ _) | (with_reducible refine Kd.C_drew ?_))); (case side2 => exact HC0.out); rintro e w15 ⟨rfl, hb⟩; refine ⟨_, rfl, ?_⟩; have n0_ := Aside0.mk (below_step z10_1_ hb); clear HB; have HB := n0_; clear n0_; (try clear hb); (try clear hb2); (try clear hk); (try clear hi)) | ((with_reducible refine gate_callee (f := 7) rfl ?_); refine goesL_ (some 66) rfl rfl Tryz.func7 (by kernel_rfl) rfl #[.int .i64 t359] rfl z10_0_ ?_; (with_reducible refine (impl_NextWithSum.calls k t359 t360 t361 _ ?side1 A6.out).mono ?_); (case side1 => exact Shelf.TabOk.below HT.out z10_1_); rintro e w16 ⟨rfl, hb⟩; refine ⟨_, rfl, ?_⟩; have n0_ := Aside0.mk (below_step z10_1_ hb); clear HB; have HB := n0_; clear n0_; (try clear hb); (try clear hb2); (try clear hk); (try clear hi)) | ((with_reducible refine gate_callee (f := 8) rfl ?_); refine goesL_ (some 71) rfl rfl Tryz.func8 (by kernel_rfl) rfl #[.int .i64 t359] rfl z10_0_ ?_; (with_reducible refine (spec_NextWithSum.calls k t359 t362 t363 _ A7.out).mono ?_); rintro e w' ⟨rfl, ⟨nd, rfl⟩⟩; refine ⟨_, rfl, ?_⟩) | ((with_reducible refine gate_callee (f := 9) rfl ?_); refine goesL_ (some 76) rfl rfl Tryz.func9 (by kernel_rfl) rfl #[.int .i64 t359] rfl z10_0_ ?_; (with_reducible refine (impl_LastWithSum.calls k t359 t364 t365 _ ?side1 A8.out).mono ?_); (case side1 => exact Shelf.TabOk.below HT.out z10_1_); rintro e w17 ⟨rfl, hb⟩; refine ⟨_, rfl, ?_⟩; have n0_ := Aside0.mk (below_step z10_1_ hb); clear HB; have HB := n0_; clear n0_; (try clear hb); (try clear hb2); (try clear hk); (try clear hi)) | ((with_reducible refine gate_callee (f := 10) rfl ?_); refine goesL_ (some 81) rfl rfl Tryz.func10 (by kernel_rfl) rfl #[.int .i64 t359] rfl z10_0_ ?_; (with_reducible refine (spec_LastWithSum.calls k t359 t366 t367 _ A9.out).mono ?_); rintro e w' ⟨rfl, ⟨nd, rfl⟩⟩; refine ⟨_, rfl, ?_⟩))
 (try simp only [Act.put, List.setIfInBounds_toArray, List.set_cons_zero, List.set_cons_succ])
 go_cut [] from 59 to 126 (fun wc => ∃ (kq : Nat), Aside0 (laws_FnLeastOfSums.j0 kq l1 t359 t364 t365 = some r) ∧ Aside0 (kq ≤ k) ∧ Aside0 (Below w.heap.size w wc))
 case first =>
  as_aux_lemma =>
  have H := HC14.out
  clear HC14
  by_cases c18 : t361 = true
  · subst c18
    rw [if_pos rfl] at H
    replace H := Option.bind_eq_some_iff.mp H
    obtain ⟨⟨t368, t369⟩, A190, H⟩ := H
    dsimp only at H
    have A19 := Aside0.mk A190
    clear A190
    by_cases c20 : t360 ≤ t359
    · exact dead_ (if_pos c20) H hr_
    rw [if_neg c20] at H
    have c20b0 : decide (t360 ≤ t359) = false := decide_eq_false c20
    clear c20
    (first | rw [c20b0] | (simp only [i64_w, i32_w]; rw [c20b0]) | skip)
    replace H := Option.bind_eq_some_iff.mp H
    obtain ⟨t372, A210, H⟩ := H
    have A21 := Aside0.mk A210
    clear A210
    replace H := Option.bind_eq_some_iff.mp H
    obtain ⟨t373, A220, H⟩ := H
    have A22 := Aside0.mk A220
    clear A220
    by_cases c23 : t372 = t373
    rotate_left
    · exact dead_ (if_neg c23) H hr_
    rw [if_pos c23] at H
    have c23b0 : (t372 == t373) = true := beq_iff_eq.mpr c23
    have c23b1 : (t372 != t373) = false := bne_eq_false_iff_eq.mpr c23
    clear c23
    as_aux_lemma =>
    by_cases c24 : t369 = true
    · subst c24
      rw [if_pos rfl] at H
      by_cases c25 : t368 = t359
      rotate_left
      · exact dead_ (if_neg c25) H hr_
      rw [if_pos c25] at H
      have c25b0 : (t368 == t359) = true := beq_iff_eq.mpr c25
      have c25b1 : (t368 != t359) = false := bne_eq_false_iff_eq.mpr c25
      clear c25
      as_aux_lemma =>
       have H' := Aside0.mk H
       clear H
       go_wp2_with (first | ((with_reducible refine gate_callee (f := 9) rfl ?_); refine goesL_ (some 105) rfl rfl Tryz.func9 (by kernel_rfl) rfl #[.int .i64 t360] rfl z10_0_ ?_; (with_reducible refine (impl_LastWithSum.calls k t360 t368 true _ ?side1 A19.out).mono ?_); (case side1 => exact Shelf.TabOk.below HT.out z10_1_); rintro e w26 ⟨rfl, hb⟩; refine ⟨_, rfl, ?_⟩; have n0_ := Aside0.mk (below_step z10_1_ hb); clear HB; have HB := n0_; clear n0_; (try clear hb); (try clear hb2); (try clear hk); (try clear hi)) | (go_at_call 11; (with_reducible refine (laws_iSum.calls k t360 t372 _ A21.out).mono ?_); rintro e w' ⟨rfl, ⟨nd, rfl⟩⟩) | (go_at_call 11; (with_reducible refine (laws_iSum.calls k t359 t373 _ A22.out).mono ?_); rintro e w' ⟨rfl, ⟨nd, rfl⟩⟩))
       try any_goals (exfalso; exact undef_bool_ (by with_reducible assumption))
       go_meet
       case rel => exact ⟨_, H', ⟨by first | omega | exact Nat.le_refl _⟩, ⟨by repeat (first | (with_reducible first | exact HB.out | apply below_alloc | apply pw_below_drewN | apply below_drew1) | exact HB.out)⟩⟩
    replace c24 := Bool.eq_false_iff.mpr c24
    subst c24
    rw [if_neg (show ¬ (false = true) by decide)] at H
    as_aux_lemma =>
     exact dead2_ H hr_
  replace c18 := Bool.eq_false_iff.mpr c18
  subst c18
  rw [if_neg (show ¬ (false = true) by decide)] at H
  as_aux_lemma =>
   have H' := Aside0.mk H
   clear H
   go_wp2
   try any_goals (exfalso; exact undef_bool_ (by with_reducible assumption))
   go_meet
   case rel => exact ⟨_, H', ⟨by first | omega | exact Nat.le_refl _⟩, ⟨by repeat (first | (with_reducible first | exact HB.out | apply below_alloc | apply pw_below_drewN | apply below_drew1) | exact HB.out)⟩⟩
 case rest =>
  as_aux_lemma =>
  clear HC14
  (try clear c1);(try clear c2);(try clear p2);(try clear c3);(try clear c4);(try clear c5);(try clear c6);(try clear c7);(try clear c8);(try clear c9);(try clear c10);(try clear c10b0);(try clear c10b1);(try clear c10b2);(try clear c11);(try clear c11b0);(try clear c11b1);(try clear c12);(try clear c12b0);(try clear c12b1);(try clear c12b2);(try clear c13);(try clear c13b0);(try clear c13b1);(try clear c18);(try clear c20);(try clear c20b0);(try clear c23);(try clear c23b0);(try clear c23b1);(try clear c24);(try clear c25);(try clear c25b0);(try clear c25b1)
  obtain ⟨kq, HA, HJ13, HB⟩ := hcut
  cases kq with
  | zero => exact absurd HA.out (by simp [laws_FnLeastOfSums.j0])
  | succ kj13 =>
   have H := HA.out
   clear HA
   simp only [laws_FnLeastOfSums.j0] at H
   have HC27 := Aside0.mk H
   clear H
   go_upto_if 127 with (fail)
   go_cut [] from 127 to 155 (fun wc => ∃ (kq : Nat), Aside0 (laws_FnLeastOfSums.j1 kq l1 = some r) ∧ Aside0 (kq ≤ kj13) ∧ Aside0 (Below w.heap.size w wc))
   case first =>
    as_aux_lemma =>
    have H := HC27.out
    clear HC27
    by_cases c28 : t365 = true
    · subst c28
      rw [if_pos rfl] at H
      replace H := Option.bind_eq_some_iff.mp H
      obtain ⟨⟨t374, t375⟩, A290, H⟩ := H
      dsimp only at H
      have A29 := Aside0.mk A290
      clear A290
      by_cases c30 : t364 ≥ t359
      · exact dead_ (if_pos c30) H hr_
      rw [if_neg c30] at H
      have c30b0 : decide (t359 ≤ t364) = false := decide_eq_false c30
      clear c30
      (first | rw [c30b0] | (simp only [i64_w, i32_w]; rw [c30b0]) | skip)
      by_cases c31 : t364 < 0
      · exact dead_ (if_pos c31) H hr_
      rw [if_neg c31] at H
      have c31b0 : decide (t364 < 0) = false := decide_eq_false c31
      clear c31
      replace H := Option.bind_eq_some_iff.mp H
      obtain ⟨t378, A320, H⟩ := H
      have A32 := Aside0.mk A320
      clear A320
      replace H := Option.bind_eq_some_iff.mp H
      obtain ⟨t379, A330, H⟩ := H
      have A33 := Aside0.mk A330
      clear A330
      as_aux_lemma =>
      by_cases c34 : t378 = t379
      rotate_left
      · exact dead_ (if_neg c34) H hr_
      rw [if_pos c34] at H
      have c34b0 : (t378 == t379) = true := beq_iff_eq.mpr c34
      have c34b1 : (t378 != t379) = false := bne_eq_false_iff_eq.mpr c34
      clear c34
      by_cases c35 : t375 = true
      · subst c35
        rw [if_pos rfl] at H
        by_cases c36 : t374 = t359
        rotate_left
        · exact dead_ (if_neg c36) H hr_
        rw [if_pos c36] at H
        have c36b0 : (t374 == t359) = true := beq_iff_eq.mpr c36
        have c36b1 : (t374 != t359) = false := bne_eq_false_iff_eq.mpr c36
        clear c36
        as_aux_lemma =>
         have H' := Aside0.mk H
         clear H
         go_wp2_with (first | ((with_reducible refine gate_callee (f := 7) rfl ?_); refine goesL_ (some 130) rfl rfl Tryz.func7 (by kernel_rfl) rfl #[.int .i64 t364] rfl z10_0_ ?_; (with_reducible refine (impl_NextWithSum.calls kj13 t364 t374 true _ ?side1 A29.out).mono ?_); (case side1 => exact Shelf.TabOk.below HT.out z10_1_); rintro e w37 ⟨rfl, hb⟩; refine ⟨_, rfl, ?_⟩; have n0_ := Aside0.mk (below_step z10_1_ hb); clear HB; have HB := n0_; clear n0_; (try clear hb); (try clear hb2); (try clear hk); (try clear hi)) | (go_at_call 11; (with_reducible refine (laws_iSum.calls kj13 t364 t378 _ A32.out).mono ?_); rintro e w' ⟨rfl, ⟨nd, rfl⟩⟩) | (go_at_call 11; (with_reducible refine (laws_iSum.calls kj13 t359 t379 _ A33.out).mono ?_); rintro e w' ⟨rfl, ⟨nd, rfl⟩⟩))
         try any_goals (exfalso; exact undef_bool_ (by with_reducible assumption))
         go_meet
         case rel => exact ⟨_, H', ⟨by have := HJ13.out; first | omega | exact Nat.le_refl _⟩, ⟨by repeat (first | (with_reducible first | exact HB.out | apply below_alloc | apply pw_below_drewN | apply below_drew1) | exact HB.out)⟩⟩
      replace c35 := Bool.eq_false_iff.mpr c35
      subst c35
      rw [if_neg (show ¬ (false = true) by decide)] at H
      as_aux_lemma =>
       exact dead2_ H hr_
    replace c28 := Bool.eq_false_iff.mpr c28
    subst c28
    rw [if_neg (show ¬ (false = true) by decide)] at H
    as_aux_lemma =>
     have H' := Aside0.mk H
     clear H
     go_wp2
     try any_goals (exfalso; exact undef_bool_ (by with_reducible assumption))
     go_meet
     case rel => exact ⟨_, H', ⟨by have := HJ13.out; first | omega | exact Nat.le_refl _⟩, ⟨by repeat (first | (with_reducible first | exact HB.out | apply below_alloc | apply pw_below_drewN | apply below_drew1) | exact HB.out)⟩⟩
   case rest =>
    as_aux_lemma =>
    clear HC27
    (try clear c1);(try clear c2);(try clear p2);(try clear c3);(try clear c4);(try clear c5);(try clear c6);(try clear c7);(try clear c8);(try clear c9);(try clear c10);(try clear c10b0);(try clear c10b1);(try clear c10b2);(try clear c11);(try clear c11b0);(try clear c11b1);(try clear c12);(try clear c12b0);(try clear c12b1);(try clear c12b2);(try clear c13);(try clear c13b0);(try clear c13b1);(try clear c18);(try clear c20);(try clear c20b0);(try clear c23);(try clear c23b0);(try clear c23b1);(try clear c24);(try clear c25);(try clear c25b0);(try clear c25b1);(try clear c28);(try clear c30);(try clear c30b0);(try clear c31);(try clear c31b0);(try clear c34);(try clear c34b0);(try clear c34b1);(try clear c35);(try clear c36);(try clear c36b0);(try clear c36b1);(try clear p2)
    obtain ⟨kq, HA, HJ26, HB⟩ := hcut
    cases kq with
    | zero => exact absurd HA.out (by simp [laws_FnLeastOfSums.j1])
    | succ kj26 =>
     have H := HA.out
     clear HA
     simp only [laws_FnLeastOfSums.j1] at H
     replace H := Option.bind_eq_some_iff.mp H
     obtain ⟨t380, A380, H⟩ := H
     have A38 := Aside0.mk A380
     clear A380
     replace H := Option.bind_eq_some_iff.mp H
     obtain ⟨⟨t381, t382⟩, A390, H⟩ := H
     dsimp only at H
     have A39 := Aside0.mk A390
     clear A390
     replace H := Option.bind_eq_some_iff.mp H
     obtain ⟨⟨t383, t384⟩, A400, H⟩ := H
     dsimp only at H
     have A40 := Aside0.mk A400
     clear A400
     replace H := Option.bind_eq_some_iff.mp H
     obtain ⟨⟨t385, t386⟩, A410, H⟩ := H
     dsimp only at H
     have A41 := Aside0.mk A410
     clear A410
     replace H := Option.bind_eq_some_iff.mp H
     obtain ⟨⟨t387, t388⟩, A420, H⟩ := H
     dsimp only at H
     have A42 := Aside0.mk A420
     clear A420
     as_aux_lemma =>
     replace H := Option.bind_eq_some_iff.mp H
     obtain ⟨⟨t389, t390⟩, A430, H⟩ := H
     dsimp only at H
     have A43 := Aside0.mk A430
     clear A430
     replace H := Option.bind_eq_some_iff.mp H
     obtain ⟨⟨t391, t392⟩, A440, H⟩ := H
     dsimp only at H
     have A44 := Aside0.mk A440
     clear A440
     replace H := Option.bind_eq_some_iff.mp H
     obtain ⟨⟨t393, t394⟩, A450, H⟩ := H
     dsimp only at H
     have A45 := Aside0.mk A450
     clear A450
     replace H := Option.bind_eq_some_iff.mp H
     obtain ⟨⟨t395, t396⟩, A460, H⟩ := H
     dsimp only at H
     have A46 := Aside0.mk A460
     clear A460
     replace H := Option.bind_eq_some_iff.mp H
     obtain ⟨⟨t397, t398⟩, A470, H⟩ := H
     dsimp only at H
     have A47 := Aside0.mk A470
     clear A470
     as_aux_lemma =>
     replace H := Option.bind_eq_some_iff.mp H
     obtain ⟨t399, A480, H⟩ := H
     have A48 := Aside0.mk A480
     clear A480
     replace H := Option.bind_eq_some_iff.mp H
     obtain ⟨⟨t400, t401⟩, A490, H⟩ := H
     dsimp only at H
     have A49 := Aside0.mk A490
     clear A490
     replace H := Option.bind_eq_some_iff.mp H
     obtain ⟨⟨t402, t403⟩, A500, H⟩ := H
     dsimp only at H
     have A50 := Aside0.mk A500
     clear A500
     replace H := Option.bind_eq_some_iff.mp H
     obtain ⟨⟨t404, t405⟩, A510, H⟩ := H
     dsimp only at H
     have A51 := Aside0.mk A510
     clear A510
     replace H := Option.bind_eq_some_iff.mp H
     obtain ⟨⟨t406, t407⟩, A520, H⟩ := H
     dsimp only at H
     have A52 := Aside0.mk A520
     clear A520
     replace H := Option.bind_eq_some_iff.mp H
     obtain ⟨⟨t408, t409⟩, A530, H⟩ := H
     dsimp only at H
     have A53 := Aside0.mk A530
     clear A530
     have HC54 := Aside0.mk H
     clear H
     go_upto_region 34 with (first | ((with_reducible refine gate_callee (f := 12) rfl ?_); refine goesL_ (some 157) rfl rfl Tryz.func12 (by kernel_rfl) rfl #[.slice A1 l1.length c1] rfl z10_0_ ?_; (with_reducible refine (spec_DrawLeastWithSum.calls _ _ l1 t380 _ ?side1 ?side2 A38.out).mono ?_); (case side1 => repeat (first | exact (Kd.C_below HR1.out HB.out) | (with_reducible refine Kd.C_alloc ?_ _) | (with_reducible refine Kd.C_drewN ?_ _) | (with_reducible refine Kd.C_drew ?_))); (case side2 => exact HC1.out); rintro e w55 ⟨rfl, hb⟩; refine ⟨_, rfl, ?_⟩; have n0_ := Aside0.mk (below_step z10_1_ hb); clear HB; have HB := n0_; clear n0_; (try clear hb); (try clear hb2); (try clear hk); (try clear hi)) | ((with_reducible refine gate_callee (f := 13) rfl ?_); refine goesL_ (some 160) rfl rfl Tryz.func13 (by kernel_rfl) rfl #[.int .i64 t380] rfl z10_0_ ?_; (with_reducible refine (impl_LeastWithSum.calls kj26 t380 t381 t382 _ A39.out).mono ?_); rintro e w56 ⟨rfl, hb⟩; refine ⟨_, rfl, ?_⟩; have n0_ := Aside0.mk (below_step z10_1_ hb); clear HB; have HB := n0_; clear n0_; (try clear hb); (try clear hb2); (try clear hk); (try clear hi)) | ((with_reducible refine gate_callee (f := 14) rfl ?_); refine goesL_ (some 165) rfl rfl Tryz.func14 (by kernel_rfl) rfl #[.int .i64 t380] rfl z10_0_ ?_; (with_reducible refine (spec_LeastWithSum.calls kj26 t380 t383 t384 _ A40.out).mono ?_); rintro e w' ⟨rfl, ⟨nd, rfl⟩⟩; refine ⟨_, rfl, ?_⟩) | ((with_reducible refine gate_callee (f := 15) rfl ?_); refine goesL_ (some 170) rfl rfl Tryz.func15 (by kernel_rfl) rfl #[.slice A1 l1.length c1] rfl z10_0_ ?_; (with_reducible refine (spec_DrawCountOfDigits.calls _ _ l1 t385 t386 _ ?side1 ?side2 A41.out).mono ?_); (case side1 => repeat (first | exact (Kd.C_below HR1.out z10_1_) | (with_reducible refine Kd.C_alloc ?_ _) | (with_reducible refine Kd.C_drewN ?_ _) | (with_reducible refine Kd.C_drew ?_))); (case side2 => exact HC1.out); rintro e w57 ⟨rfl, hb⟩; refine ⟨_, rfl, ?_⟩; have n0_ := Aside0.mk (below_step z10_1_ hb); clear HB; have HB := n0_; clear n0_; (try clear hb); (try clear hb2); (try clear hk); (try clear hi)) | ((with_reducible refine gate_callee (f := 16) rfl ?_); refine goesL_ (some 176) rfl rfl Tryz.func16 (by kernel_rfl) rfl #[.int .i64 t385, .int .i64 t386] rfl z10_0_ ?_; (with_reducible refine (impl_LeastOfDigits.calls kj26 t385 t386 t387 t388 _ ?side1 A42.out).mono ?_); (case side1 => exact Shelf.TabOk.below HT.out z10_1_); rintro e w58 ⟨rfl, hb⟩; refine ⟨_, rfl, ?_⟩; have n0_ := Aside0.mk (below_step z10_1_ hb); clear HB; have HB := n0_; clear n0_; (try clear hb); (try clear hb2); (try clear hk); (try clear hi)) | ((with_reducible refine gate_callee (f := 17) rfl ?_); refine goesL_ (some 182) rfl rfl Tryz.func17 (by kernel_rfl) rfl #[.int .i64 t385, .int .i64 t386] rfl z10_0_ ?_; (with_reducible refine (spec_LeastOfDigits.calls kj26 t385 t386 t389 t390 _ A43.out).mono ?_); rintro e w' ⟨rfl, ⟨nd, rfl⟩⟩; refine ⟨_, rfl, ?_⟩) | ((with_reducible refine gate_callee (f := 18) rfl ?_); refine goesL_ (some 188) rfl rfl Tryz.func18 (by kernel_rfl) rfl #[.int .i64 t385, .int .i64 t386] rfl z10_0_ ?_; (with_reducible refine (impl_GreatestOfDigits.calls kj26 t385 t386 t391 t392 _ ?side1 A44.out).mono ?_); (case side1 => exact Shelf.TabOk.below HT.out z10_1_); rintro e w59 ⟨rfl, hb⟩; refine ⟨_, rfl, ?_⟩; have n0_ := Aside0.mk (below_step z10_1_ hb); clear HB; have HB := n0_; clear n0_; (try clear hb); (try clear hb2); (try clear hk); (try clear hi)) | ((with_reducible refine gate_callee (f := 19) rfl ?_); refine goesL_ (some 194) rfl rfl Tryz.func19 (by kernel_rfl) rfl #[.int .i64 t385, .int .i64 t386] rfl z10_0_ ?_; (with_reducible refine (spec_GreatestOfDigits.calls kj26 t385 t386 t393 t394 _ A45.out).mono ?_); rintro e w' ⟨rfl, ⟨nd, rfl⟩⟩; refine ⟨_, rfl, ?_⟩) | ((with_reducible refine gate_callee (f := 20) rfl ?_); refine goesL_ (some 200) rfl rfl Tryz.func20 (by kernel_rfl) rfl #[.int .i64 t385, .int .i64 t386] rfl z10_0_ ?_; (with_reducible refine (impl_CountOfDigits.calls kj26 t385 t386 t395 t396 _ A46.out).mono ?_); rintro e w60 ⟨rfl, hb⟩; refine ⟨_, rfl, ?_⟩; have n0_ := Aside0.mk (below_step z10_1_ hb); clear HB; have HB := n0_; clear n0_; (try clear hb); (try clear hb2); (try clear hk); (try clear hi)) | ((with_reducible refine gate_callee (f := 21) rfl ?_); refine goesL_ (some 206) rfl rfl Tryz.func21 (by kernel_rfl) rfl #[.int .i64 t385, .int .i64 t386] rfl z10_0_ ?_; (with_reducible refine (spec_CountOfDigits.calls kj26 t385 t386 t397 t398 _ A47.out).mono ?_); rintro e w61 ⟨rfl, hb⟩; refine ⟨_, rfl, ?_⟩; have n0_ := Aside0.mk (below_step z10_1_ hb); clear HB; have HB := n0_; clear n0_; (try clear hb); (try clear hb2); (try clear hk); (try clear hi)) | ((with_reducible refine gate_callee (f := 22) rfl ?_); refine goesL_ (some 210) rfl rfl Tryz.func22 (by kernel_rfl) rfl #[.slice A1 l1.length c1] rfl z10_0_ ?_; (with_reducible refine (spec_DrawSumDivides.calls _ _ l1 t399 _ ?side1 ?side2 A48.out).mono ?_); (case side1 => repeat (first | exact (Kd.C_below HR1.out HB.out) | (with_reducible refine Kd.C_alloc ?_ _) | (with_reducible refine Kd.C_drewN ?_ _) | (with_reducible refine Kd.C_drew ?_))); (case side2 => exact HC1.out); rintro e w62 ⟨rfl, hb⟩; refine ⟨_, rfl, ?_⟩; have n0_ := Aside0.mk (below_step z10_1_ hb); clear HB; have HB := n0_; clear n0_; (try clear hb); (try clear hb2); (try clear hk); (try clear hi)) | ((with_reducible refine gate_callee (f := 23) rfl ?_); refine goesL_ (some 213) rfl rfl Tryz.func23 (by kernel_rfl) rfl #[.int .i64 t399] rfl z10_0_ ?_; (with_reducible refine (impl_SumDivides.calls kj26 t399 t400 t401 _ ?side1 A49.out).mono ?_); (case side1 => exact Shelf.TabOk.below HT.out z10_1_); rintro e w63 ⟨rfl, hb⟩; refine ⟨_, rfl, ?_⟩; have n0_ := Aside0.mk (below_step z10_1_ hb); clear HB; have HB := n0_; clear n0_; (try clear hb); (try clear hb2); (try clear hk); (try clear hi)) | ((with_reducible refine gate_callee (f := 24) rfl ?_); refine goesL_ (some 218) rfl rfl Tryz.func24 (by kernel_rfl) rfl #[.int .i64 t399] rfl z10_0_ ?_; (with_reducible refine (spec_SumDivides.calls kj26 t399 t402 t403 _ A50.out).mono ?_); rintro e w64 ⟨rfl, hb⟩; refine ⟨_, rfl, ?_⟩; have n0_ := Aside0.mk (below_step z10_1_ hb); clear HB; have HB := n0_; clear n0_; (try clear hb); (try clear hb2); (try clear hk); (try clear hi)) | ((with_reducible refine gate_callee (f := 25) rfl ?_); refine goesL_ (some 223) rfl rfl Tryz.func25 (by kernel_rfl) rfl #[.slice A1 l1.length c1] rfl z10_0_ ?_; (with_reducible refine (spec_DrawLeastBoth.calls kj26 _ _ l1 t404 t405 _ ?side1 ?side2 A51.out).mono ?_); (case side1 => repeat (first | exact (Kd.C_below HR1.out HB.out) | (with_reducible refine Kd.C_alloc ?_ _) | (with_reducible refine Kd.C_drewN ?_ _) | (with_reducible refine Kd.C_drew ?_))); (case side2 => exact HC1.out); rintro e w65 ⟨rfl, hb⟩; refine ⟨_, rfl, ?_⟩; have n0_ := Aside0.mk (below_step z10_1_ hb); clear HB; have HB := n0_; clear n0_; (try clear hb); (try clear hb2); (try clear hk); (try clear hi)) | ((with_reducible refine gate_callee (f := 26) rfl ?_); refine goesL_ (some 229) rfl rfl Tryz.func26 (by kernel_rfl) rfl #[.int .i64 t404, .int .i64 t405] rfl z10_0_ ?_; (with_reducible refine (impl_LeastBoth.calls kj26 t404 t405 t406 t407 _ A52.out).mono ?_); rintro e w66 ⟨rfl, hb⟩; refine ⟨_, rfl, ?_⟩; have n0_ := Aside0.mk (below_step z10_1_ hb); clear HB; have HB := n0_; clear n0_; (try clear hb); (try clear hb2); (try clear hk); (try clear hi)) | ((with_reducible refine gate_callee (f := 27) rfl ?_); refine goesL_ (some 235) rfl rfl Tryz.func27 (by kernel_rfl) rfl #[.int .i64 t404, .int .i64 t405] rfl z10_0_ ?_; (with_reducible refine (spec_LeastBoth.calls kj26 t404 t405 t408 t409 _ A53.out).mono ?_); rintro e w' ⟨rfl, ⟨nd, rfl⟩⟩; refine ⟨_, rfl, ?_⟩))
     (try simp only [Act.put, List.setIfInBounds_toArray, List.set_cons_zero, List.set_cons_succ])
     go_cut [309] from 156 to 309 (fun v309 wc => ∃ (kq : Nat) (x309_53 : Bool), v309 = .bool x309_53 ∧ Aside0 (laws_FnLeastOfSums.j2 kq t380 t381 t382 t385 t386 t387 t388 t391 t395 t399 t400 t401 t404 t405 t406 t407 x309_53 = some r) ∧ Aside0 (kq ≤ kj26) ∧ Aside0 (Below w.heap.size w wc))
     case first =>
      as_aux_lemma =>
      have H := HC54.out
      clear HC54
      by_cases c67 : (t382 != t384) = true
      · exact laws_FnLeastOfSums.j2_dead ((if_pos c67).symm.trans H) hr_
      rw [if_neg c67] at H
      have c67b0 : (t382 != t384) = false := by simpa using c67
      (try (have c67b1 : decide (t382 = t384) = true := by simpa using c67))
      (try (have c67b2 : (t382 == t384) = true := by simpa using c67))
      clear c67
      (first | rw [c67b0] | (simp only [i64_w, i32_w]; rw [c67b0]) | skip)
      by_cases c68 : t381 = t383
      rotate_left
      · exact laws_FnLeastOfSums.j2_dead ((if_neg c68).symm.trans H) hr_
      rw [if_pos c68] at H
      have c68b0 : (t381 == t383) = true := beq_iff_eq.mpr c68
      have c68b1 : (t381 != t383) = false := bne_eq_false_iff_eq.mpr c68
      clear c68
      by_cases c69 : (t388 != t390) = true
      · exact laws_FnLeastOfSums.j2_dead ((if_pos c69).symm.trans H) hr_
      rw [if_neg c69] at H
      have c69b0 : (t388 != t390) = false := by simpa using c69
      (try (have c69b1 : decide (t388 = t390) = true := by simpa using c69))
      (try (have c69b2 : (t388 == t390) = true := by simpa using c69))
      clear c69
      by_cases c70 : t387 = t389
      rotate_left
      · exact laws_FnLeastOfSums.j2_dead ((if_neg c70).symm.trans H) hr_
      rw [if_pos c70] at H
      have c70b0 : (t387 == t389) = true := beq_iff_eq.mpr c70
      have c70b1 : (t387 != t389) = false := bne_eq_false_iff_eq.mpr c70
      clear c70
      as_aux_lemma =>
      by_cases c71 : (t392 != t394) = true
      · exact laws_FnLeastOfSums.j2_dead ((if_pos c71).symm.trans H) hr_
      rw [if_neg c71] at H
      have c71b0 : (t392 != t394) = false := by simpa using c71
      (try (have c71b1 : decide (t392 = t394) = true := by simpa using c71))
      (try (have c71b2 : (t392 == t394) = true := by simpa using c71))
      clear c71
      by_cases c72 : t391 = t393
      rotate_left
      · exact laws_FnLeastOfSums.j2_dead ((if_neg c72).symm.trans H) hr_
      rw [if_pos c72] at H
      have c72b0 : (t391 == t393) = true := beq_iff_eq.mpr c72
      have c72b1 : (t391 != t393) = false := bne_eq_false_iff_eq.mpr c72
      clear c72
      by_cases c73 : (t396 != t398) = true
      · exact laws_FnLeastOfSums.j2_dead ((if_pos c73).symm.trans H) hr_
      rw [if_neg c73] at H
      have c73b0 : (t396 != t398) = false := by simpa using c73
      (try (have c73b1 : decide (t396 = t398) = true := by simpa using c73))
      (try (have c73b2 : (t396 == t398) = true := by simpa using c73))
      clear c73
      by_cases c74 : t395 = t397
      rotate_left
      · exact laws_FnLeastOfSums.j2_dead ((if_neg c74).symm.trans H) hr_
      rw [if_pos c74] at H
      have c74b0 : (t395 == t397) = true := beq_iff_eq.mpr c74
      have c74b1 : (t395 != t397) = false := bne_eq_false_iff_eq.mpr c74
      clear c74
      as_aux_lemma =>
      by_cases c75 : (t401 != t403) = true
      · exact laws_FnLeastOfSums.j2_dead ((if_pos c75).symm.trans H) hr_
      rw [if_neg c75] at H
      have c75b0 : (t401 != t403) = false := by simpa using c75
      (try (have c75b1 : decide (t401 = t403) = true := by simpa using c75))
      (try (have c75b2 : (t401 == t403) = true := by simpa using c75))
      clear c75
      by_cases c76 : t400 = t402
      rotate_left
      · exact laws_FnLeastOfSums.j2_dead ((if_neg c76).symm.trans H) hr_
      rw [if_pos c76] at H
      have c76b0 : (t400 == t402) = true := beq_iff_eq.mpr c76
      have c76b1 : (t400 != t402) = false := bne_eq_false_iff_eq.mpr c76
      clear c76
      by_cases c77 : (t407 != t409) = true
      · exact laws_FnLeastOfSums.j2_dead ((if_pos c77).symm.trans H) hr_
      rw [if_neg c77] at H
      have c77b0 : (t407 != t409) = false := by simpa using c77
      (try (have c77b1 : decide (t407 = t409) = true := by simpa using c77))
      (try (have c77b2 : (t407 == t409) = true := by simpa using c77))
      clear c77
      by_cases c78 : t406 = t408
      rotate_left
      · exact laws_FnLeastOfSums.j2_dead ((if_neg c78).symm.trans H) hr_
      rw [if_pos c78] at H
      have c78b0 : (t406 == t408) = true := beq_iff_eq.mpr c78
      have c78b1 : (t406 != t408) = false := bne_eq_false_iff_eq.mpr c78
      clear c78
      as_aux_lemma =>
      by_cases c79 : (t392 != t388) = true
      · exact laws_FnLeastOfSums.j2_dead ((if_pos c79).symm.trans H) hr_
      rw [if_neg c79] at H
      have c79b0 : (t392 != t388) = false := by simpa using c79
      (try (have c79b1 : decide (t392 = t388) = true := by simpa using c79))
      (try (have c79b2 : (t392 == t388) = true := by simpa using c79))
      clear c79
      by_cases c80 : t396 = true
      · subst c80
        rw [if_pos rfl] at H
        as_aux_lemma =>
         have H' := Aside0.mk H
         clear H
         go_wp2
         try any_goals (exfalso; exact undef_bool_ (by with_reducible assumption))
         go_meet
         case rel => exact ⟨_, ((t388 != (decide (t395 > 0)))), z10_2_, H', ⟨by have := HJ13.out; have := HJ26.out; first | omega | exact Nat.le_refl _⟩, ⟨by repeat (first | (with_reducible first | exact HB.out | apply below_alloc | apply pw_below_drewN | apply below_drew1) | exact HB.out)⟩⟩
      replace c80 := Bool.eq_false_iff.mpr c80
      subst c80
      rw [if_neg (show ¬ (false = true) by decide)] at H
      as_aux_lemma =>
       have H' := Aside0.mk H
       clear H
       go_wp2
       try any_goals (exfalso; exact undef_bool_ (by with_reducible assumption))
       go_meet
       case rel => exact ⟨_, ((t388 != false)), z10_2_, H', ⟨by have := HJ13.out; have := HJ26.out; first | omega | exact Nat.le_refl _⟩, ⟨by repeat (first | (with_reducible first | exact HB.out | apply below_alloc | apply pw_below_drewN | apply below_drew1) | exact HB.out)⟩⟩
     case rest =>
      as_aux_lemma =>
      clear HC54
      (try clear c1);(try clear c2);(try clear p2);(try clear c3);(try clear c4);(try clear c5);(try clear c6);(try clear c7);(try clear c8);(try clear c9);(try clear c10);(try clear c10b0);(try clear c10b1);(try clear c10b2);(try clear c11);(try clear c11b0);(try clear c11b1);(try clear c12);(try clear c12b0);(try clear c12b1);(try clear c12b2);(try clear c13);(try clear c13b0);(try clear c13b1);(try clear c14);(try clear c15);(try clear c16);(try clear c17);(try clear c18);(try clear c19);(try clear c20);(try clear c20b0);(try clear c21);(try clear c22);(try clear c23);(try clear c23b0);(try clear c23b1);(try clear c24);(try clear c25);(try clear c25b0);(try clear c25b1);(try clear c26);(try clear c27);(try clear c28);(try clear c30);(try clear c30b0);(try clear c31);(try clear c31b0);(try clear c34);(try clear c34b0);(try clear c34b1);(try clear c35);(try clear c36);(try clear c36b0);(try clear c36b1);(try clear c67);(try clear c67b0);(try clear c67b1);(try clear c67b2);(try clear c68);(try clear c68b0);(try clear c68b1);(try clear c69);(try clear c69b0);(try clear c69b1);(try clear c69b2);(try clear c70);(try clear c70b0);(try clear c70b1);(try clear c71);(try clear c71b0);(try clear c71b1);(try clear c71b2);(try clear c72);(try clear c72b0);(try clear c72b1);(try clear c73);(try clear c73b0);(try clear c73b1);(try clear c73b2);(try clear c74);(try clear c74b0);(try clear c74b1);(try clear c75);(try clear c75b0);(try clear c75b1);(try clear c75b2);(try clear c76);(try clear c76b0);(try clear c76b1);(try clear c77);(try clear c77b0);(try clear c77b1);(try clear c77b2);(try clear c78);(try clear c78b0);(try clear c78b1);(try clear c79);(try clear c79b0);(try clear c79b1);(try clear c79b2);(try clear c80);(try clear p2)
      obtain ⟨kq, x309_53, rfl, HA, HJ53, HB⟩ := hcut
      cases kq with
      | zero => exact absurd HA.out (by simp [laws_FnLeastOfSums.j2])
      | succ kj53 =>
       have H := HA.out
       clear HA
       simp only [laws_FnLeastOfSums.j2] at H
       by_cases c81 : x309_53 = true
       · subst c81
         rw [if_pos rfl] at H
         as_aux_lemma =>
          exact dead2_ H hr_
       replace c81 := Bool.eq_false_iff.mpr c81
       subst c81
       rw [if_neg (show ¬ (false = true) by decide)] at H
       have HC82 := Aside0.mk H
       clear H
       go_upto_if 310 with (fail)
       go_cut [] from 310 to 322 (fun wc => ∃ (kq : Nat), Aside0 (laws_FnLeastOfSums.j3 kq t385 t386 t387 t388 t391 t395 t399 t400 t401 t404 t405 t406 t407 = some r) ∧ Aside0 (kq ≤ kj53) ∧ Aside0 (Below w.heap.size w wc))
       case first =>
        as_aux_lemma =>
        have H := HC82.out
        clear HC82
        by_cases c83 : t382 = true
        · subst c83
          rw [if_pos rfl] at H
          replace H := Option.bind_eq_some_iff.mp H
          obtain ⟨⟨t410, t411⟩, A840, H⟩ := H
          dsimp only at H
          have A84 := Aside0.mk A840
          clear A840
          replace H := Option.bind_eq_some_iff.mp H
          obtain ⟨t413, A850, H⟩ := H
          have A85 := Aside0.mk A850
          clear A850
          by_cases c86 : t413 = t380
          rotate_left
          · exact dead_ (if_neg c86) H hr_
          rw [if_pos c86] at H
          have c86b0 : (t413 == t380) = true := beq_iff_eq.mpr c86
          have c86b1 : (t413 != t380) = false := bne_eq_false_iff_eq.mpr c86
          clear c86
          (first | rw [c86b0] | (simp only [i64_w, i32_w]; rw [c86b0]) | skip)
          by_cases c87 : t411 = true
          · subst c87
            rw [if_pos rfl] at H
            as_aux_lemma =>
             exact dead2_ H hr_
          replace c87 := Bool.eq_false_iff.mpr c87
          subst c87
          rw [if_neg (show ¬ (false = true) by decide)] at H
          as_aux_lemma =>
           have H' := Aside0.mk H
           clear H
           go_wp2_with (first | ((with_reducible refine gate_callee (f := 9) rfl ?_); refine goesL_ (some 313) rfl rfl Tryz.func9 (by kernel_rfl) rfl #[.int .i64 t381] rfl z10_0_ ?_; (with_reducible refine (impl_LastWithSum.calls kj53 t381 t410 false _ ?side1 A84.out).mono ?_); (case side1 => exact Shelf.TabOk.below HT.out z10_1_); rintro e w88 ⟨rfl, hb⟩; refine ⟨_, rfl, ?_⟩; have n0_ := Aside0.mk (below_step z10_1_ hb); clear HB; have HB := n0_; clear n0_; (try clear hb); (try clear hb2); (try clear hk); (try clear hi)) | ((with_reducible refine gate_callee (f := 11) rfl ?_); refine goesL_ (some 317) rfl rfl Tryz.func11 (by kernel_rfl) rfl #[.int .i64 t381] rfl z10_0_ ?_; (with_reducible refine (laws_iSum.calls kj53 t381 t413 _ A85.out).mono ?_); rintro e w' ⟨rfl, ⟨nd, rfl⟩⟩; refine ⟨_, rfl, ?_⟩))
           try any_goals (exfalso; exact undef_bool_ (by with_reducible assumption))
           go_meet
           case rel => exact ⟨_, H', ⟨by have := HJ13.out; have := HJ26.out; have := HJ53.out; first | omega | exact Nat.le_refl _⟩, ⟨by repeat (first | (with_reducible first | exact HB.out | apply below_alloc | apply pw_below_drewN | apply below_drew1) | exact HB.out)⟩⟩
        replace c83 := Bool.eq_false_iff.mpr c83
        subst c83
        rw [if_neg (show ¬ (false = true) by decide)] at H
        as_aux_lemma =>
         have H' := Aside0.mk H
         clear H
         go_wp2
         try any_goals (exfalso; exact undef_bool_ (by with_reducible assumption))
         go_meet
         case rel => exact ⟨_, H', ⟨by have := HJ13.out; have := HJ26.out; have := HJ53.out; first | omega | exact Nat.le_refl _⟩, ⟨by repeat (first | (with_reducible first | exact HB.out | apply below_alloc | apply pw_below_drewN | apply below_drew1) | exact HB.out)⟩⟩
       case rest =>
        as_aux_lemma =>
        clear HC82
        (try clear c1);(try clear c2);(try clear p2);(try clear c3);(try clear c4);(try clear c5);(try clear c6);(try clear c7);(try clear c8);(try clear c9);(try clear c10);(try clear c10b0);(try clear c10b1);(try clear c10b2);(try clear c11);(try clear c11b0);(try clear c11b1);(try clear c12);(try clear c12b0);(try clear c12b1);(try clear c12b2);(try clear c13);(try clear c13b0);(try clear c13b1);(try clear c14);(try clear c15);(try clear c16);(try clear c17);(try clear c18);(try clear c19);(try clear c20);(try clear c20b0);(try clear c21);(try clear c22);(try clear c23);(try clear c23b0);(try clear c23b1);(try clear c24);(try clear c25);(try clear c25b0);(try clear c25b1);(try clear c26);(try clear c27);(try clear c28);(try clear c30);(try clear c30b0);(try clear c31);(try clear c31b0);(try clear c34);(try clear c34b0);(try clear c34b1);(try clear c35);(try clear c36);(try clear c36b0);(try clear c36b1);(try clear c67);(try clear c67b0);(try clear c67b1);(try clear c67b2);(try clear c68);(try clear c68b0);(try clear c68b1);(try clear c69);(try clear c69b0);(try clear c69b1);(try clear c69b2);(try clear c70);(try clear c70b0);(try clear c70b1);(try clear c71);(try clear c71b0);(try clear c71b1);(try clear c71b2);(try clear c72);(try clear c72b0);(try clear c72b1);(try clear c73);(try clear c73b0);(try clear c73b1);(try clear c73b2);(try clear c74);(try clear c74b0);(try clear c74b1);(try clear c75);(try clear c75b0);(try clear c75b1);(try clear c75b2);(try clear c76);(try clear c76b0);(try clear c76b1);(try clear c77);(try clear c77b0);(try clear c77b1);(try clear c77b2);(try clear c78);(try clear c78b0);(try clear c78b1);(try clear c79);(try clear c79b0);(try clear c79b1);(try clear c79b2);(try clear c80);(try clear c81);(try clear c83);(try clear c86);(try clear c86b0);(try clear c86b1);(try clear c87);(try clear p2)
        obtain ⟨kq, HA, HJ81, HB⟩ := hcut
        cases kq with
        | zero => exact absurd HA.out (by simp [laws_FnLeastOfSums.j3])
        | succ kj81 =>
         have H := HA.out
         clear HA
         simp only [laws_FnLeastOfSums.j3] at H
         have HC89 := Aside0.mk H
         clear H
         go_upto_if 323 with (fail)
         go_cut [] from 323 to 366 (fun wc => ∃ (kq : Nat), Aside0 (laws_FnLeastOfSums.j5 kq t399 t400 t401 t404 t405 t406 t407 = some r) ∧ Aside0 (kq ≤ kj81) ∧ Aside0 (Below w.heap.size w wc))
         case first =>
          as_aux_lemma =>
          have H := HC89.out
          clear HC89
          by_cases c90 : t388 = true
          · subst c90
            rw [if_pos rfl] at H
            replace H := Option.bind_eq_some_iff.mp H
            obtain ⟨t416, A910, H⟩ := H
            have A91 := Aside0.mk A910
            clear A910
            by_cases c92 : t416 = t386
            rotate_left
            · exact dead_ (if_neg c92) H hr_
            rw [if_pos c92] at H
            have c92b0 : (t416 == t386) = true := beq_iff_eq.mpr c92
            have c92b1 : (t416 != t386) = false := bne_eq_false_iff_eq.mpr c92
            clear c92
            (first | rw [c92b0] | (simp only [i64_w, i32_w]; rw [c92b0]) | skip)
            replace H := Option.bind_eq_some_iff.mp H
            obtain ⟨t417, A930, H⟩ := H
            have A93 := Aside0.mk A930
            clear A930
            by_cases c94 : t417 = t386
            rotate_left
            · exact dead_ (if_neg c94) H hr_
            rw [if_pos c94] at H
            have c94b0 : (t417 == t386) = true := beq_iff_eq.mpr c94
            have c94b1 : (t417 != t386) = false := bne_eq_false_iff_eq.mpr c94
            clear c94
            by_cases c95 : t387 > t391
            · exact dead_ (if_pos c95) H hr_
            rw [if_neg c95] at H
            have c95b0 : decide (t391 < t387) = false := decide_eq_false c95
            clear c95
            as_aux_lemma =>
            by_cases c96 : ((t395 == 1) != (t387 == t391)) = true
            · exact dead_ (if_pos c96) H hr_
            rw [if_neg c96] at H
            have c96b0 : ((t395 == 1) != (t387 == t391)) = false := by simpa using c96
            (try (have c96b1 : decide ((t395 == 1) = (t387 == t391)) = true := by simpa using c96))
            (try (have c96b2 : ((t395 == 1) == (t387 == t391)) = true := by simpa using c96))
            clear c96
            have H' := Aside0.mk H
            clear H
            go_wp2_with (first | ((with_reducible refine gate_callee (f := 11) rfl ?_); refine goesL_ (some 325) rfl rfl Tryz.func11 (by kernel_rfl) rfl #[.int .i64 t387] rfl z10_0_ ?_; (with_reducible refine (laws_iSum.calls kj81 t387 t416 _ A91.out).mono ?_); rintro e w' ⟨rfl, ⟨nd, rfl⟩⟩; refine ⟨_, rfl, ?_⟩) | (go_at_call 11; (with_reducible refine (laws_iSum.calls kj81 t391 t417 _ A93.out).mono ?_); rintro e w' ⟨rfl, ⟨nd, rfl⟩⟩))
            go_loopg [50, 51] kj81 (fun kq v50 v51 w' => ∃ (x50_5 : Int) (x51_5 : Int), v50 = .int .i64 x50_5 ∧ v51 = .int .i64 x51_5 ∧ Aside0 (laws_FnLeastOfSums.l0 kq t385 t387 t391 t399 t400 t401 t404 t405 t406 t407 x50_5 x51_5 = some r) ∧ Aside0 (kq ≤ kj81) ∧ Aside0 (Below w.heap.size w w'))
            case atStart => exact ⟨(1), (1), z10_2_, z10_2_, H', ⟨Nat.le_refl _⟩, ⟨by repeat (first | (with_reducible first | exact HB.out | apply below_alloc | apply pw_below_drewN | apply below_drew1) | exact HB.out)⟩⟩
            case round =>
             clear H'
             (try clear c1);(try clear c2);(try clear p2);(try clear c3);(try clear c4);(try clear c5);(try clear c6);(try clear c7);(try clear c8);(try clear c9);(try clear c10);(try clear c10b0);(try clear c10b1);(try clear c10b2);(try clear c11);(try clear c11b0);(try clear c11b1);(try clear c12);(try clear c12b0);(try clear c12b1);(try clear c12b2);(try clear c13);(try clear c13b0);(try clear c13b1);(try clear c14);(try clear c15);(try clear c16);(try clear c17);(try clear c18);(try clear c19);(try clear c20);(try clear c20b0);(try clear c21);(try clear c22);(try clear c23);(try clear c23b0);(try clear c23b1);(try clear c24);(try clear c25);(try clear c25b0);(try clear c25b1);(try clear c26);(try clear c27);(try clear c28);(try clear c30);(try clear c30b0);(try clear c31);(try clear c31b0);(try clear c34);(try clear c34b0);(try clear c34b1);(try clear c35);(try clear c36);(try clear c36b0);(try clear c36b1);(try clear c67);(try clear c67b0);(try clear c67b1);(try clear c67b2);(try clear c68);(try clear c68b0);(try clear c68b1);(try clear c69);(try clear c69b0);(try clear c69b1);(try clear c69b2);(try clear c70);(try clear c70b0);(try clear c70b1);(try clear c71);(try clear c71b0);(try clear c71b1);(try clear c71b2);(try clear c72);(try clear c72b0);(try clear c72b1);(try clear c73);(try clear c73b0);(try clear c73b1);(try clear c73b2);(try clear c74);(try clear c74b0);(try clear c74b1);(try clear c75);(try clear c75b0);(try clear c75b1);(try clear c75b2);(try clear c76);(try clear c76b0);(try clear c76b1);(try clear c77);(try clear c77b0);(try clear c77b1);(try clear c77b2);(try clear c78);(try clear c78b0);(try clear c78b1);(try clear c79);(try clear c79b0);(try clear c79b1);(try clear c79b2);(try clear c80);(try clear c81);(try clear c83);(try clear c86);(try clear c86b0);(try clear c86b1);(try clear c87);(try clear c90);(try clear c92);(try clear c92b0);(try clear c92b1);(try clear c94);(try clear c94b0);(try clear c94b1);(try clear c95);(try clear c95b0);(try clear c96);(try clear c96b0);(try clear c96b1);(try clear c96b2);(try clear p2)
             obtain ⟨x50_5, x51_5, rfl, rfl, HA, HK5, HB⟩ := hrel
             cases gk with
             | zero => exact absurd HA.out (by simp [laws_FnLeastOfSums.l0])
             | succ k5 =>
              have H := HA.out
              clear HA
              simp only [laws_FnLeastOfSums.l0] at H
              by_cases c97 : x51_5 < t385
              · rw [if_pos c97] at H
                have c97b0 : decide (x51_5 < t385) = true := decide_eq_true c97
                clear c97
                as_aux_lemma =>
                 have H' := Aside0.mk H
                 clear H
                 go_wp2
                 go_roundg k5
                 case measure => have := HJ13.out; have := HJ26.out; have := HJ53.out; have := HJ81.out; have := HK5.out; omega
                 case rel => exact ⟨(wrap64 (x50_5 * 10)), (wrap64 (x51_5 + 1)), z10_2_, z10_2_, H', ⟨by have := HJ13.out; have := HJ26.out; have := HJ53.out; have := HJ81.out; have := HK5.out; omega⟩, ⟨by repeat (first | (with_reducible first | exact HB.out | apply below_alloc | apply pw_below_drewN | apply below_drew1) | exact HB.out)⟩⟩
              rw [if_neg c97] at H
              have c97b0 : decide (x51_5 < t385) = false := decide_eq_false c97
              clear c97
              by_cases c98 : t385 > 1
              · rw [if_pos c98] at H
                have c98b0 : decide (1 < t385) = true := decide_eq_true c98
                clear c98
                by_cases c99 : t387 < x50_5
                · exact dead_ (if_pos c99) H hr_
                rw [if_neg c99] at H
                have c99b0 : decide (t387 < x50_5) = false := decide_eq_false c99
                clear c99
                by_cases c100 : x50_5 = 0
                · exact none_ (if_pos c100) H
                rw [if_neg c100] at H
                have c100b0 : (x50_5 == 0) = false := beq_eq_false_iff_ne.mpr c100
                have c100b1 : (x50_5 != 0) = true := bne_iff_ne.mpr c100
                by_cases c101 : (wrap64 (Int.tdiv t391 x50_5)) > 9
                · exact dead_ (if_pos c101) H hr_
                rw [if_neg c101] at H
                have c101b0 : decide (9 < (wrap64 (Int.tdiv t391 x50_5))) = false := decide_eq_false c101
                clear c101
                as_aux_lemma =>
                 have H' := Aside0.mk H
                 clear H
                 go_wp2
                 try any_goals (exfalso; exact undef_bool_ (by with_reducible assumption))
                 go_meet
                 case rel => exact ⟨_, H', ⟨by have := HJ13.out; have := HJ26.out; have := HJ53.out; have := HJ81.out; have := HK5.out; first | omega | exact Nat.le_refl _⟩, ⟨by repeat (first | (with_reducible first | exact HB.out | apply below_alloc | apply pw_below_drewN | apply below_drew1) | exact HB.out)⟩⟩
              rw [if_neg c98] at H
              have c98b0 : decide (1 < t385) = false := decide_eq_false c98
              clear c98
              as_aux_lemma =>
              by_cases c102 : x50_5 = 0
              · exact none_ (if_pos c102) H
              rw [if_neg c102] at H
              have c102b0 : (x50_5 == 0) = false := beq_eq_false_iff_ne.mpr c102
              have c102b1 : (x50_5 != 0) = true := bne_iff_ne.mpr c102
              by_cases c103 : (wrap64 (Int.tdiv t391 x50_5)) > 9
              · exact dead_ (if_pos c103) H hr_
              rw [if_neg c103] at H
              have c103b0 : decide (9 < (wrap64 (Int.tdiv t391 x50_5))) = false := decide_eq_false c103
              clear c103
              as_aux_lemma =>
               have H' := Aside0.mk H
               clear H
               go_wp2
               try any_goals (exfalso; exact undef_bool_ (by with_reducible assumption))
               go_meet
               case rel => exact ⟨_, H', ⟨by have := HJ13.out; have := HJ26.out; have := HJ53.out; have := HJ81.out; have := HK5.out; first | omega | exact Nat.le_refl _⟩, ⟨by repeat (first | (with_reducible first | exact HB.out | apply below_alloc | apply pw_below_drewN | apply below_drew1) | exact HB.out)⟩⟩
          replace c90 := Bool.eq_false_iff.mpr c90
          subst c90
          rw [if_neg (show ¬ (false = true) by decide)] at H
          as_aux_lemma =>
           have H' := Aside0.mk H
           clear H
           go_wp2
           try any_goals (exfalso; exact undef_bool_ (by with_reducible assumption))
           go_meet
           case rel => exact ⟨_, H', ⟨by have := HJ13.out; have := HJ26.out; have := HJ53.out; have := HJ81.out; first | omega | exact Nat.le_refl _⟩, ⟨by repeat (first | (with_reducible first | exact HB.out | apply below_alloc | apply pw_below_drewN | apply below_drew1) | exact HB.out)⟩⟩
         case rest =>
          as_aux_lemma =>
          clear HC89
          (try clear c1);(try clear c2);(try clear p2);(try clear c3);(try clear c4);(try clear c5);(try clear c6);(try clear p6);(try clear c7);(try clear c8);(try clear c9);(try clear c10);(try clear c10b0);(try clear c10b1);(try clear c10b2);(try clear c11);(try clear c11b0);(try clear c11b1);(try clear c12);(try clear c12b0);(try clear c12b1);(try clear c12b2);(try clear c13);(try clear c13b0);(try clear c13b1);(try clear c14);(try clear c15);(try clear c16);(try clear c17);(try clear c18);(try clear c19);(try clear c20);(try clear c20b0);(try clear c21);(try clear c22);(try clear c23);(try clear c23b0);(try clear c23b1);(try clear c24);(try clear c25);(try clear c25b0);(try clear c25b1);(try clear c26);(try clear c27);(try clear c28);(try clear c30);(try clear c30b0);(try clear c31);(try clear c31b0);(try clear c34);(try clear c34b0);(try clear c34b1);(try clear c35);(try clear c36);(try clear c36b0);(try clear c36b1);(try clear p64);(try clear c67);(try clear c67b0);(try clear c67b1);(try clear c67b2);(try clear c68);(try clear c68b0);(try clear c68b1);(try clear c69);(try clear c69b0);(try clear c69b1);(try clear c69b2);(try clear c70);(try clear c70b0);(try clear c70b1);(try clear c71);(try clear c71b0);(try clear c71b1);(try clear c71b2);(try clear c72);(try clear c72b0);(try clear c72b1);(try clear c73);(try clear c73b0);(try clear c73b1);(try clear c73b2);(try clear c74);(try clear c74b0);(try clear c74b1);(try clear c75);(try clear c75b0);(try clear c75b1);(try clear c75b2);(try clear c76);(try clear c76b0);(try clear c76b1);(try clear c77);(try clear c77b0);(try clear c77b1);(try clear c77b2);(try clear c78);(try clear c78b0);(try clear c78b1);(try clear c79);(try clear c79b0);(try clear c79b1);(try clear c79b2);(try clear c80);(try clear c81);(try clear c83);(try clear c86);(try clear c86b0);(try clear c86b1);(try clear c87);(try clear c90);(try clear c92);(try clear c92b0);(try clear c92b1);(try clear c94);(try clear c94b0);(try clear c94b1);(try clear c95);(try clear c95b0);(try clear c96);(try clear c96b0);(try clear c96b1);(try clear c96b2);(try clear c97);(try clear c97b0);(try clear c98);(try clear c98b0);(try clear c99);(try clear c99b0);(try clear c100);(try clear c100b0);(try clear c100b1);(try clear c101);(try clear c101b0);(try clear c102);(try clear c102b0);(try clear c102b1);(try clear c103);(try clear c103b0);(try clear p2)
          obtain ⟨kq, HA, HJ88, HB⟩ := hcut
          cases kq with
          | zero => exact absurd HA.out (by simp [laws_FnLeastOfSums.j5])
          | succ kj88 =>
           have H := HA.out
           clear HA
           simp only [laws_FnLeastOfSums.j5] at H
           have HC104 := Aside0.mk H
           clear H
           go_upto_if 367 with (fail)
           go_cut [] from 367 to 396 (fun wc => ∃ (kq : Nat), Aside0 (laws_FnLeastOfSums.j7 kq t404 t405 t406 t407 = some r) ∧ Aside0 (kq ≤ kj88) ∧ Aside0 (Below w.heap.size w wc))
           case first =>
            as_aux_lemma =>
            have H := HC104.out
            clear HC104
            by_cases c105 : t401 = true
            · subst c105
              rw [if_pos rfl] at H
              by_cases c106 : t400 < t399
              · exact dead_ (if_pos c106) H hr_
              rw [if_neg c106] at H
              have c106b0 : decide (t400 < t399) = false := decide_eq_false c106
              clear c106
              (first | rw [c106b0] | (simp only [i64_w, i32_w]; rw [c106b0]) | skip)
              by_cases c107 : t400 < 1
              · exact dead_ (if_pos c107) H hr_
              rw [if_neg c107] at H
              have c107b0 : decide (t400 < 1) = false := decide_eq_false c107
              clear c107
              replace H := Option.bind_eq_some_iff.mp H
              obtain ⟨t419, A1080, H⟩ := H
              have A108 := Aside0.mk A1080
              clear A1080
              by_cases c109 : t419 = 0
              · exact none_ (if_pos c109) H
              rw [if_neg c109] at H
              have c109b0 : (t419 == 0) = false := beq_eq_false_iff_ne.mpr c109
              have c109b1 : (t419 != 0) = true := bne_iff_ne.mpr c109
              by_cases c110 : (Int.tmod t400 t419) = 0
              rotate_left
              · exact dead_ (if_neg c110) H hr_
              rw [if_pos c110] at H
              have c110b0 : ((Int.tmod t400 t419) == 0) = true := beq_iff_eq.mpr c110
              have c110b1 : ((Int.tmod t400 t419) != 0) = false := bne_eq_false_iff_eq.mpr c110
              clear c110
              have H' := Aside0.mk H
              clear H
              go_wp2_with (first | (go_at_call 11; (with_reducible refine (laws_iSum.calls kj88 t400 t419 _ A108.out).mono ?_); rintro e w' ⟨rfl, ⟨nd, rfl⟩⟩))
              go_loopg [52] kj88 (fun kq v52 w' => ∃ (x52_6 : Int), v52 = .int .i64 x52_6 ∧ Aside0 (laws_FnLeastOfSums.l1 kq t400 t404 t405 t406 t407 x52_6 = some r) ∧ Aside0 (kq ≤ kj88) ∧ Aside0 (Below w.heap.size w w'))
              case atStart => exact ⟨(t399), z10_2_, H', ⟨Nat.le_refl _⟩, ⟨by repeat (first | (with_reducible first | exact HB.out | apply below_alloc | apply pw_below_drewN | apply below_drew1) | exact HB.out)⟩⟩
              case round =>
               clear H'
               (try clear c1);(try clear c2);(try clear p2);(try clear c3);(try clear c4);(try clear c5);(try clear c6);(try clear p6);(try clear c7);(try clear c8);(try clear c9);(try clear c10);(try clear c10b0);(try clear c10b1);(try clear c10b2);(try clear c11);(try clear c11b0);(try clear c11b1);(try clear c12);(try clear c12b0);(try clear c12b1);(try clear c12b2);(try clear c13);(try clear c13b0);(try clear c13b1);(try clear c14);(try clear c15);(try clear c16);(try clear c17);(try clear c18);(try clear c19);(try clear c20);(try clear c20b0);(try clear c21);(try clear c22);(try clear c23);(try clear c23b0);(try clear c23b1);(try clear c24);(try clear c25);(try clear c25b0);(try clear c25b1);(try clear c26);(try clear c27);(try clear c28);(try clear c30);(try clear c30b0);(try clear c31);(try clear c31b0);(try clear c34);(try clear c34b0);(try clear c34b1);(try clear c35);(try clear c36);(try clear c36b0);(try clear c36b1);(try clear p64);(try clear c67);(try clear c67b0);(try clear c67b1);(try clear c67b2);(try clear c68);(try clear c68b0);(try clear c68b1);(try clear c69);(try clear c69b0);(try clear c69b1);(try clear c69b2);(try clear c70);(try clear c70b0);(try clear c70b1);(try clear c71);(try clear c71b0);(try clear c71b1);(try clear c71b2);(try clear c72);(try clear c72b0);(try clear c72b1);(try clear c73);(try clear c73b0);(try clear c73b1);(try clear c73b2);(try clear c74);(try clear c74b0);(try clear c74b1);(try clear c75);(try clear c75b0);(try clear c75b1);(try clear c75b2);(try clear c76);(try clear c76b0);(try clear c76b1);(try clear c77);(try clear c77b0);(try clear c77b1);(try clear c77b2);(try clear c78);(try clear c78b0);(try clear c78b1);(try clear c79);(try clear c79b0);(try clear c79b1);(try clear c79b2);(try clear c80);(try clear c81);(try clear c83);(try clear c86);(try clear c86b0);(try clear c86b1);(try clear c87);(try clear c90);(try clear c92);(try clear c92b0);(try clear c92b1);(try clear c94);(try clear c94b0);(try clear c94b1);(try clear c95);(try clear c95b0);(try clear c96);(try clear c96b0);(try clear c96b1);(try clear c96b2);(try clear c97);(try clear c97b0);(try clear c98);(try clear c98b0);(try clear c99);(try clear c99b0);(try clear c100);(try clear c100b0);(try clear c100b1);(try clear c101);(try clear c101b0);(try clear c102);(try clear c102b0);(try clear c102b1);(try clear c103);(try clear c103b0);(try clear c105);(try clear c106);(try clear c106b0);(try clear c107);(try clear c107b0);(try clear c109);(try clear c109b0);(try clear c109b1);(try clear c110);(try clear c110b0);(try clear c110b1);(try clear p2);(try clear p6);(try clear p64)
               obtain ⟨x52_6, rfl, HA, HK6, HB⟩ := hrel
               cases gk with
               | zero => exact absurd HA.out (by simp [laws_FnLeastOfSums.l1])
               | succ k6 =>
                have H := HA.out
                clear HA
                simp only [laws_FnLeastOfSums.l1] at H
                by_cases c111 : x52_6 < t400
                · rw [if_pos c111] at H
                  have c111b0 : decide (x52_6 < t400) = true := decide_eq_true c111
                  clear c111
                  by_cases c112 : x52_6 > 0
                  · rw [if_pos c112] at H
                    have c112b0 : decide (0 < x52_6) = true := decide_eq_true c112
                    clear c112
                    replace H := Option.bind_eq_some_iff.mp H
                    obtain ⟨t421, A1130, H⟩ := H
                    have A113 := Aside0.mk A1130
                    clear A1130
                    by_cases c114 : t421 = 0
                    · exact none_ (if_pos c114) H
                    rw [if_neg c114] at H
                    have c114b0 : (t421 == 0) = false := beq_eq_false_iff_ne.mpr c114
                    have c114b1 : (t421 != 0) = true := bne_iff_ne.mpr c114
                    by_cases c115 : (Int.tmod x52_6 t421) = 0
                    · exact dead_ (if_pos c115) H hr_
                    rw [if_neg c115] at H
                    have c115b0 : ((Int.tmod x52_6 t421) == 0) = false := beq_eq_false_iff_ne.mpr c115
                    have c115b1 : ((Int.tmod x52_6 t421) != 0) = true := bne_iff_ne.mpr c115
                    as_aux_lemma =>
                     have H' := Aside0.mk H
                     clear H
                     go_wp2_with (first | (go_at_call 11; (with_reducible refine (laws_iSum.calls k6 x52_6 t421 _ A113.out).mono ?_); rintro e w' ⟨rfl, ⟨nd, rfl⟩⟩))
                     go_roundg k6
                     case measure => have := HJ13.out; have := HJ26.out; have := HJ53.out; have := HJ81.out; have := HJ88.out; have := HK6.out; omega
                     case rel => exact ⟨(wrap64 (x52_6 + 1)), z10_2_, H', ⟨by have := HJ13.out; have := HJ26.out; have := HJ53.out; have := HJ81.out; have := HJ88.out; have := HK6.out; omega⟩, ⟨by repeat (first | (with_reducible first | exact HB.out | apply below_alloc | apply pw_below_drewN | apply below_drew1) | exact HB.out)⟩⟩
                  rw [if_neg c112] at H
                  have c112b0 : decide (0 < x52_6) = false := decide_eq_false c112
                  clear c112
                  as_aux_lemma =>
                   have H' := Aside0.mk H
                   clear H
                   go_wp2
                   go_roundg k6
                   case measure => have := HJ13.out; have := HJ26.out; have := HJ53.out; have := HJ81.out; have := HJ88.out; have := HK6.out; omega
                   case rel => exact ⟨(wrap64 (x52_6 + 1)), z10_2_, H', ⟨by have := HJ13.out; have := HJ26.out; have := HJ53.out; have := HJ81.out; have := HJ88.out; have := HK6.out; omega⟩, ⟨by repeat (first | (with_reducible first | exact HB.out | apply below_alloc | apply pw_below_drewN | apply below_drew1) | exact HB.out)⟩⟩
                rw [if_neg c111] at H
                have c111b0 : decide (x52_6 < t400) = false := decide_eq_false c111
                clear c111
                as_aux_lemma =>
                 have H' := Aside0.mk H
                 clear H
                 go_wp2
                 try any_goals (exfalso; exact undef_bool_ (by with_reducible assumption))
                 go_meet
                 case rel => exact ⟨_, H', ⟨by have := HJ13.out; have := HJ26.out; have := HJ53.out; have := HJ81.out; have := HJ88.out; have := HK6.out; first | omega | exact Nat.le_refl _⟩, ⟨by repeat (first | (with_reducible first | exact HB.out | apply below_alloc | apply pw_below_drewN | apply below_drew1) | exact HB.out)⟩⟩
            replace c105 := Bool.eq_false_iff.mpr c105
            subst c105
            rw [if_neg (show ¬ (false = true) by decide)] at H
            as_aux_lemma =>
             have H' := Aside0.mk H
             clear H
             go_wp2
             try any_goals (exfalso; exact undef_bool_ (by with_reducible assumption))
             go_meet
             case rel => exact ⟨_, H', ⟨by have := HJ13.out; have := HJ26.out; have := HJ53.out; have := HJ81.out; have := HJ88.out; first | omega | exact Nat.le_refl _⟩, ⟨by repeat (first | (with_reducible first | exact HB.out | apply below_alloc | apply pw_below_drewN | apply below_drew1) | exact HB.out)⟩⟩
           case rest =>
            as_aux_lemma =>
            clear HC104
            (try clear c1);(try clear c2);(try clear p2);(try clear c3);(try clear c4);(try clear c5);(try clear c6);(try clear p6);(try clear c7);(try clear c8);(try clear c9);(try clear c10);(try clear c10b0);(try clear c10b1);(try clear c10b2);(try clear c11);(try clear c11b0);(try clear c11b1);(try clear c12);(try clear c12b0);(try clear c12b1);(try clear c12b2);(try clear c13);(try clear c13b0);(try clear c13b1);(try clear c14);(try clear c15);(try clear c16);(try clear c17);(try clear c18);(try clear c19);(try clear c20);(try clear c20b0);(try clear c21);(try clear c22);(try clear c23);(try clear c23b0);(try clear c23b1);(try clear c24);(try clear c25);(try clear c25b0);(try clear c25b1);(try clear c26);(try clear c27);(try clear c28);(try clear c30);(try clear c30b0);(try clear c31);(try clear c31b0);(try clear c34);(try clear c34b0);(try clear c34b1);(try clear c35);(try clear c36);(try clear c36b0);(try clear c36b1);(try clear p64);(try clear c67);(try clear c67b0);(try clear c67b1);(try clear c67b2);(try clear c68);(try clear c68b0);(try clear c68b1);(try clear c69);(try clear c69b0);(try clear c69b1);(try clear c69b2);(try clear c70);(try clear c70b0);(try clear c70b1);(try clear c71);(try clear c71b0);(try clear c71b1);(try clear c71b2);(try clear c72);(try clear c72b0);(try clear c72b1);(try clear c73);(try clear c73b0);(try clear c73b1);(try clear c73b2);(try clear c74);(try clear c74b0);(try clear c74b1);(try clear c75);(try clear c75b0);(try clear c75b1);(try clear c75b2);(try clear c76);(try clear c76b0);(try clear c76b1);(try clear c77);(try clear c77b0);(try clear c77b1);(try clear c77b2);(try clear c78);(try clear c78b0);(try clear c78b1);(try clear c79);(try clear c79b0);(try clear c79b1);(try clear c79b2);(try clear c80);(try clear c81);(try clear c83);(try clear c86);(try clear c86b0);(try clear c86b1);(try clear c87);(try clear c90);(try clear c92);(try clear c92b0);(try clear c92b1);(try clear c94);(try clear c94b0);(try clear c94b1);(try clear c95);(try clear c95b0);(try clear c96);(try clear c96b0);(try clear c96b1);(try clear c96b2);(try clear c97);(try clear c97b0);(try clear c98);(try clear c98b0);(try clear c99);(try clear c99b0);(try clear c100);(try clear c100b0);(try clear c100b1);(try clear c101);(try clear c101b0);(try clear c102);(try clear c102b0);(try clear c102b1);(try clear c103);(try clear c103b0);(try clear c105);(try clear c106);(try clear c106b0);(try clear c107);(try clear c107b0);(try clear c109);(try clear c109b0);(try clear c109b1);(try clear c110);(try clear c110b0);(try clear c110b1);(try clear c111);(try clear c111b0);(try clear c112);(try clear c112b0);(try clear c114);(try clear c114b0);(try clear c114b1);(try clear c115);(try clear c115b0);(try clear c115b1);(try clear p2);(try clear p6);(try clear p64)
            obtain ⟨kq, HA, HJ103, HB⟩ := hcut
            cases kq with
            | zero => exact absurd HA.out (by simp [laws_FnLeastOfSums.j7])
            | succ kj103 =>
             have H := HA.out
             clear HA
             simp only [laws_FnLeastOfSums.j7] at H
             by_cases c116 : t407 = true
             · subst c116
               rw [if_pos rfl] at H
               replace H := Option.bind_eq_some_iff.mp H
               obtain ⟨⟨t422, t423⟩, A1170, H⟩ := H
               dsimp only at H
               have A117 := Aside0.mk A1170
               clear A1170
               replace H := Option.bind_eq_some_iff.mp H
               obtain ⟨⟨t424, t425⟩, A1180, H⟩ := H
               dsimp only at H
               have A118 := Aside0.mk A1180
               clear A1180
               replace H := Option.bind_eq_some_iff.mp H
               obtain ⟨⟨t426, t427⟩, A1190, H⟩ := H
               dsimp only at H
               have A119 := Aside0.mk A1190
               clear A1190
               by_cases c120 : t423 = true
               · subst c120
                 rw [if_pos rfl] at H
                 by_cases c121 : t422 = t405
                 rotate_left
                 · exact dead_ (if_neg c121) H hr_
                 rw [if_pos c121] at H
                 have c121b0 : (t422 == t405) = true := beq_iff_eq.mpr c121
                 have c121b1 : (t422 != t405) = false := bne_eq_false_iff_eq.mpr c121
                 clear c121
                 replace H := Option.bind_eq_some_iff.mp H
                 obtain ⟨t429, A1220, H⟩ := H
                 have A122 := Aside0.mk A1220
                 clear A1220
                 by_cases c123 : t429 = t404
                 rotate_left
                 · exact dead_ (if_neg c123) H hr_
                 rw [if_pos c123] at H
                 have c123b0 : (t429 == t404) = true := beq_iff_eq.mpr c123
                 have c123b1 : (t429 != t404) = false := bne_eq_false_iff_eq.mpr c123
                 clear c123
                 by_cases c124 : t425 = true
                 · subst c124
                   rw [if_pos rfl] at H
                   by_cases c125 : t406 < t424
                   · exact dead_ (if_pos c125) H hr_
                   rw [if_neg c125] at H
                   have c125b0 : decide (t406 < t424) = false := decide_eq_false c125
                   clear c125
                   by_cases c126 : t427 = true
                   · subst c126
                     rw [if_pos rfl] at H
                     by_cases c127 : t406 < t426
                     · exact dead_ (if_pos c127) H hr_
                     rw [if_neg c127] at H
                     have c127b0 : decide (t406 < t426) = false := decide_eq_false c127
                     clear c127
                     as_aux_lemma =>
                      obtain rfl := Option.some.inj H
                      go_wp2_with (first | ((with_reducible refine gate_callee (f := 28) rfl ?_); refine goesL_ (some 400) rfl rfl Tryz.func28 (by kernel_rfl) rfl #[.int .i64 t406] rfl z10_0_ ?_; (with_reducible refine (impl_ProductOfDigits.calls kj103 t406 t422 true _ ?side1 A117.out).mono ?_); (case side1 => exact Shelf.TabOk.below HT.out z10_1_); rintro e w128 ⟨rfl, hb⟩; refine ⟨_, rfl, ?_⟩; have n0_ := Aside0.mk (below_step z10_1_ hb); clear HB; have HB := n0_; clear n0_; (try clear hb); (try clear hb2); (try clear hk); (try clear hi)) | ((with_reducible refine gate_callee (f := 29) rfl ?_); refine goesL_ (some 405) rfl rfl Tryz.func29 (by kernel_rfl) rfl #[.int .i64 t405] rfl z10_0_ ?_; (with_reducible refine (impl_LeastWithProduct.calls kj103 t405 t424 true _ A118.out).mono ?_); rintro e w129 ⟨rfl, hb⟩; refine ⟨_, rfl, ?_⟩; have n0_ := Aside0.mk (below_step z10_1_ hb); clear HB; have HB := n0_; clear n0_; (try clear hb); (try clear hb2); (try clear hk); (try clear hi)) | ((with_reducible refine gate_callee (f := 13) rfl ?_); refine goesL_ (some 410) rfl rfl Tryz.func13 (by kernel_rfl) rfl #[.int .i64 t404] rfl z10_0_ ?_; (with_reducible refine (impl_LeastWithSum.calls kj103 t404 t426 true _ A119.out).mono ?_); rintro e w130 ⟨rfl, hb⟩; refine ⟨_, rfl, ?_⟩; have n0_ := Aside0.mk (below_step z10_1_ hb); clear HB; have HB := n0_; clear n0_; (try clear hb); (try clear hb2); (try clear hk); (try clear hi)) | (go_at_call 11; (with_reducible refine (laws_iSum.calls kj103 t406 t429 _ A122.out).mono ?_); rintro e w' ⟨rfl, ⟨nd, rfl⟩⟩))
                      go_ret
                      exact ⟨by first | exact rfl | (simp [errW_none, errW_some] <;> rfl) | (simp [*, errW_none, errW_some] <;> rfl), by repeat (first | (with_reducible first | exact HB.out | apply below_alloc | apply pw_below_drewN | apply below_drew1) | exact HB.out)⟩
                   replace c126 := Bool.eq_false_iff.mpr c126
                   subst c126
                   rw [if_neg (show ¬ (false = true) by decide)] at H
                   as_aux_lemma =>
                    exact dead2_ H hr_
                 replace c124 := Bool.eq_false_iff.mpr c124
                 subst c124
                 rw [if_neg (show ¬ (false = true) by decide)] at H
                 as_aux_lemma =>
                  exact dead2_ H hr_
               replace c120 := Bool.eq_false_iff.mpr c120
               subst c120
               rw [if_neg (show ¬ (false = true) by decide)] at H
               as_aux_lemma =>
                exact dead2_ H hr_
             replace c116 := Bool.eq_false_iff.mpr c116
             subst c116
             rw [if_neg (show ¬ (false = true) by decide)] at H
             as_aux_lemma =>
              obtain rfl := Option.some.inj H
              go_wp2
              go_ret
              exact ⟨by first | exact rfl | (simp [errW_none, errW_some] <;> rfl) | (simp [*, errW_none, errW_some] <;> rfl), by repeat (first | (with_reducible first | exact HB.out | apply below_alloc | apply pw_below_drewN | apply below_drew1) | exact HB.out)⟩

/-- THE ONE PURE STATEMENT of laws_FnLeastOfSums: yours. -/
def laws_FnLeastOfSums.Pure : Prop := ∀ (l0 : List Int) (l1 : List Int), l0.length ≤ maxLen → l0.length * 1 ≤ 140737488351232 → (∀ x ∈ l0, (Lit.int .u8 x).wf = true) → l1.length ≤ maxLen → l1.length * 1 ≤ 140737488351232 → (∀ x ∈ l1, (Lit.int .u8 x).wf = true) → ∃ k, laws_FnLeastOfSums.f k l0 l1 = some true
theorem laws_FnLeastOfSums.walk (P : laws_FnLeastOfSums.Pure) (a0 : Option Addr) (len0 cap0 : Nat) (z0 : List Int) (a1 : Option Addr) (len1 cap1 : Nat) (z1 : List Int) (w : World) (hT : Shelf.TabOk w) (w0 : (a0 = none ∧ len0 = 0 ∧ cap0 = 0 ∧ z0 = []) ∨ ∃ x, a0 = some x ∧ len0 ≤ cap0 ∧ cap0 ≤ maxLen ∧ z0.length = cap0 ∧ (∀ i, i < z0.length → w.cell? (x.add i) = some (.int .u8 (z0.getD i 0))) ∧ ∀ n ∈ z0, (Lit.int .u8 n).wf = true) (y0 : len0 * 1 ≤ 140737488351232) (w1 : (a1 = none ∧ len1 = 0 ∧ cap1 = 0 ∧ z1 = []) ∨ ∃ x, a1 = some x ∧ len1 ≤ cap1 ∧ cap1 ≤ maxLen ∧ z1.length = cap1 ∧ (∀ i, i < z1.length → w.cell? (x.add i) = some (.int .u8 (z1.getD i 0))) ∧ ∀ n ∈ z1, (Lit.int .u8 n).wf = true) (y1 : len1 * 1 ≤ 140737488351232) :
 Calls Tryz.prog 3 #[.slice a0 len0 cap0, .slice a1 len1 cap1] w fun e w' => e = .returned (.bool true) ∧ Below w.heap.size w w' := by
 obtain ⟨l0, rfl, hr0, hm0, hw0, hc0⟩ := ReadsInt.ofRowC w0
 obtain ⟨l1, rfl, hr1, hm1, hw1, hc1⟩ := ReadsInt.ofRowC w1
 obtain ⟨k, h⟩ := P l0 l1 hm0 y0 hw0 hm1 y1 hw1
 refine (laws_FnLeastOfSums.calls k _ _ l0 _ _ l1 true w hT (Kd.C_of_reads (d := (0 : Int)) (h1 := fun _ => rfl) hr0) hc0 (Kd.C_of_reads (d := (0 : Int)) (h1 := fun _ => rfl) hr1) hc1 (Aside0.mk rfl) h).mono ?_
 rintro e w' ⟨rfl, hd⟩
 exact ⟨rfl, hd⟩

end Go.Proofs.YtogonichanoeaaaGreatDoor.PFnLeastOfSums

-- Laid by this session's program gprint.py over the kit's print.
import Derived.Test.YtgpakeadepcgnaaDoorPFnExactSureDigitsx0
import Derived.Test.YtgpakeadepcgnaaDoorPFnExactSureDigitsx5
import Derived.Test.YtgpakeadepcgnaaDoorPFnExactSureDigitsx6
namespace Go.Proofs.YtgpakeadepcgnaaDoor.PFnExactSureDigits
open Go.RowKit Go.Proofs.YtgpakeadepcgnaaDoorW.PrintWords Go.Proofs.YtgpakeadepcgnaaDoorW.PrintLast Go.Proofs.YtgpakeadepcgnaaDoorW.PrintMore
attribute [local go_sem] max2_int min2_int max_two min_two max_three min_three max_four min_four   -- for this text's walks alone
set_option linter.unusedVariables false
set_option linter.unusedSimpArgs false
theorem z7_0_ {p : Prop} (h : p := by repeat (first | (with_reducible first | exact HB.out | apply below_alloc | apply pw_below_drewN | apply below_drew1) | exact HB.out)) : p := h
theorem z7_1_ {p : Prop} (h : p := by (try simp only [List.map_toArray, List.map_cons, List.map_nil]); first | done | rfl | (simp only [List.length_drop, List.length_take]; rfl)) : p := h
theorem z7_2_ {p : Prop} (h : p := by repeat (first | (with_reducible first | exact HB.out | apply below_alloc | apply pw_below_drewN | apply below_drew1 | refine below_set ?_ GE189.out) | exact HB.out)) : p := h
theorem z7_3_ {p : Prop} (h : p := by first | (with_reducible assumption) | assumption) : p := h
theorem z7_4_ {p : Prop} (h : p := by (with_reducible repeat (first | refine blk_drewN ?_ _ | refine blk_drew ?_ | refine blk_alloc ?_ _)); exact BK189.out) : p := h

/-! ### impl_told: function 68 -/
def impl_told.f (k : Nat) (a0 : Int) (a1 : Int) (a2 : ByteArray) : Option (Int) := if a0 = 0 then (if 0 ≤ (wrap64 (2 * a1)) then (if (wrap64 (2 * a1)) ≤ (wrap64 ((wrap64 (2 * a1)) + 2)) then (if (wrap64 ((wrap64 (2 * a1)) + 2)) ≤ (a2.size : Int) then ((impl_sumOf.f k (a2.extract ((wrap64 (2 * a1)) : Int).toNat ((wrap64 ((wrap64 (2 * a1)) + 2)) : Int).toNat)).bind fun t181 => (some t181)) else (none)) else (none)) else (none)) else (if a0 = 1 then (if 0 ≤ a1 then (if a1 < (a2.size : Int) then (some (((bt a2 a1) - 48) % 256)) else (none)) else (none)) else (if a0 = 2 then ((impl_isLucky.f k a2).bind fun t182 => ((impl_bit.f t182).bind fun t183 => (some t183))) else (if a0 = 3 then (if 0 ≤ a1 then (if a1 < (a2.size : Int) then (if 0 ≤ (wrap64 (a1 + 1)) then (if (wrap64 (a1 + 1)) < (a2.size : Int) then ((impl_bit.f (decide ((bt a2 a1) < (bt a2 (wrap64 (a1 + 1)))))).bind fun t184 => (some t184)) else (none)) else (none)) else (none)) else (none)) else ((impl_differs.f k a2).bind fun t185 => (some t185)))))
theorem impl_told.mono : ∀ a0 a1 a2 k, LeO (impl_told.f k a0 a1 a2) (impl_told.f (k + 1) a0 a1 a2) := by
 intro a0 a1 a2 k
 unfold impl_told.f
 repeat' first
  | (with_reducible exact impl_differs.mono _ _)
  | (with_reducible exact impl_isLucky.mono _ _)
  | (with_reducible exact impl_sumOf.mono _ _)
  | (with_reducible exact LeO.refl _)
  | (with_reducible exact LeO.none _)
  | (with_reducible refine LeO.ite ?_ ?_)
  | (with_reducible refine LeO.bind ?_ (fun _ => ?_))
  | exact impl_differs.mono _ _
  | exact impl_isLucky.mono _ _
  | exact impl_sumOf.mono _ _
  | exact LeO.none _
  | refine LeO.ite ?_ ?_
  | refine LeO.bind ?_ (fun _ => ?_)
set_option maxHeartbeats 8000000 in
set_option maxRecDepth 100000 in
theorem impl_told.calls (k : Nat) (a0 : Int) (a1 : Int) (a2 : ByteArray) (r : Int) (w : World) (h : impl_told.f k a0 a1 a2 = some r) :
 Calls Tryd.prog 68 #[.int .i64 a0, .int .i64 a1, .string a2] w fun e w' => e = .returned (.int .i64 r) ∧ Below w.heap.size w w' := by
 have HB := Aside0.mk (Below.refl w.heap.size w)
 have H : (if a0 = 0 then (if 0 ≤ (wrap64 (2 * a1)) then (if (wrap64 (2 * a1)) ≤ (wrap64 ((wrap64 (2 * a1)) + 2)) then (if (wrap64 ((wrap64 (2 * a1)) + 2)) ≤ (a2.size : Int) then ((impl_sumOf.f k (a2.extract ((wrap64 (2 * a1)) : Int).toNat ((wrap64 ((wrap64 (2 * a1)) + 2)) : Int).toNat)).bind fun t181 => (some t181)) else (none)) else (none)) else (none)) else (if a0 = 1 then (if 0 ≤ a1 then (if a1 < (a2.size : Int) then (some (((bt a2 a1) - 48) % 256)) else (none)) else (none)) else (if a0 = 2 then ((impl_isLucky.f k a2).bind fun t182 => ((impl_bit.f t182).bind fun t183 => (some t183))) else (if a0 = 3 then (if 0 ≤ a1 then (if a1 < (a2.size : Int) then (if 0 ≤ (wrap64 (a1 + 1)) then (if (wrap64 (a1 + 1)) < (a2.size : Int) then ((impl_bit.f (decide ((bt a2 a1) < (bt a2 (wrap64 (a1 + 1)))))).bind fun t184 => (some t184)) else (none)) else (none)) else (none)) else (none)) else ((impl_differs.f k a2).bind fun t185 => (some t185)))))) = some r := h
 clear h
 by_cases c4 : a0 = 0
 · rw [if_pos c4] at H
   have c4b0 : (a0 == 0) = true := beq_iff_eq.mpr c4
   have c4b1 : (a0 != 0) = false := bne_eq_false_iff_eq.mpr c4
   clear c4
   obtain ⟨ji5, hji5⟩ : ∃ j_ : Int, (wrap64 (2 * a1)) = j_ := ⟨_, rfl⟩
   replace H : (if 0 ≤ (ji5) then (if (ji5) ≤ (wrap64 ((ji5) + 2)) then (if (wrap64 ((ji5) + 2)) ≤ (a2.size : Int) then ((impl_sumOf.f k (a2.extract ((ji5) : Int).toNat ((wrap64 ((ji5) + 2)) : Int).toNat)).bind fun t181 => (some t181)) else (none)) else (none)) else (none)) = some r := by first | (rw [hji5] at H; exact H) | (simp only [hji5] at H ⊢; exact H)
   have hji5w : (IntKind.i64.wrap (2 * a1)) = ji5 := (i64_w _).trans hji5
   by_cases c6 : 0 ≤ (ji5)
   rotate_left
   · exact none_ (if_neg c6) H
   rw [if_pos c6] at H
   have c6b0 := eq_true c6
   have c6b1 : decide (0 ≤ (ji5)) = true := decide_eq_true c6
   clear c6
   by_cases c7 : (ji5) ≤ (wrap64 ((ji5) + 2))
   rotate_left
   · exact none_ (if_neg c7) H
   rw [if_pos c7] at H
   have c7b0 := eq_true c7
   have c7b1 : decide ((ji5) ≤ (wrap64 ((ji5) + 2))) = true := decide_eq_true c7
   by_cases c8 : (wrap64 ((ji5) + 2)) ≤ (a2.size : Int)
   rotate_left
   · exact none_ (if_neg c8) H
   rw [if_pos c8] at H
   have c8b0 := eq_true c8
   have c8b1 : decide ((wrap64 ((ji5) + 2)) ≤ (a2.size : Int)) = true := decide_eq_true c8
   replace H := Option.bind_eq_some_iff.mp H
   obtain ⟨t181, A90, H⟩ := H
   have A9 := Aside0.mk A90
   clear A90
   obtain rfl := Option.some.inj H
   go_enter Tryd.func68, Tryd.ntmps68
   go_wp2_with (first | (go_at_call 88; (with_reducible refine (impl_sumOf.calls k (a2.extract ((ji5) : Int).toNat ((wrap64 ((ji5) + 2)) : Int).toNat) t181 _ A9.out).mono ?_); rintro e w' ⟨rfl, ⟨nd, rfl⟩⟩; (try first | exact ⟨rfl, _, World.drewN_drewN _ _ _⟩ | exact ⟨rfl, _, Eq.trans (World.drewN_drewN _ _ _) (congrArg (World.drewN _) (Nat.add_assoc _ _ _))⟩)))
   repeat (go_quiet (fail); try go_wp2_with (first | (go_at_call 88; (with_reducible refine (impl_sumOf.calls k (a2.extract ((ji5) : Int).toNat ((wrap64 ((ji5) + 2)) : Int).toNat) t181 _ A9.out).mono ?_); rintro e w' ⟨rfl, ⟨nd, rfl⟩⟩; (try first | exact ⟨rfl, _, World.drewN_drewN _ _ _⟩ | exact ⟨rfl, _, Eq.trans (World.drewN_drewN _ _ _) (congrArg (World.drewN _) (Nat.add_assoc _ _ _))⟩))))
   go_ret
   exact ⟨by first | rfl | (simp [errW_none, errW_some] <;> rfl) | (simp only [← hji5]; first | rfl | (simp [errW_none, errW_some] <;> rfl)) | (simp [*, errW_none, errW_some] <;> rfl), by repeat (first | (with_reducible first | exact HB.out | apply below_alloc | apply pw_below_drewN | apply below_drew1) | exact HB.out)⟩
 rw [if_neg c4] at H
 have c4b0 : (a0 == 0) = false := beq_eq_false_iff_ne.mpr c4
 have c4b1 : (a0 != 0) = true := bne_iff_ne.mpr c4
 by_cases c10 : a0 = 1
 · rw [if_pos c10] at H
   have c10b0 : (a0 == 1) = true := beq_iff_eq.mpr c10
   have c10b1 : (a0 != 1) = false := bne_eq_false_iff_eq.mpr c10
   clear c10
   by_cases c11 : 0 ≤ a1
   rotate_left
   · exact none_ (if_neg c11) H
   rw [if_pos c11] at H
   have c11b0 : decide (0 ≤ a1) = true := decide_eq_true c11
   clear c11
   by_cases c12 : a1 < (a2.size : Int)
   rotate_left
   · exact none_ (if_neg c12) H
   rw [if_pos c12] at H
   have c12b0 : decide (a1 < (a2.size : Int)) = true := decide_eq_true c12
   clear c12
   obtain rfl := Option.some.inj H
   have p13 : 0 ≤ (a1 : Int) := of_decide_eq_true z7_3_
   have q13 : a1 < (a2.size : Int) := of_decide_eq_true z7_3_
   have hx13 := bt_at a2 a1
   replace p13 := eq_true p13
   replace q13 := eq_true q13
   go_enter Tryd.func68, Tryd.ntmps68
   go_wp2
   repeat (go_quiet (fail); try go_wp2)
   go_ret
   exact ⟨by first | rfl | (simp [errW_none, errW_some] <;> rfl) | (simp [*, errW_none, errW_some] <;> rfl), by repeat (first | (with_reducible first | exact HB.out | apply below_alloc | apply pw_below_drewN | apply below_drew1) | exact HB.out)⟩
 rw [if_neg c10] at H
 have c10b0 : (a0 == 1) = false := beq_eq_false_iff_ne.mpr c10
 have c10b1 : (a0 != 1) = true := bne_iff_ne.mpr c10
 by_cases c14 : a0 = 2
 · rw [if_pos c14] at H
   have c14b0 : (a0 == 2) = true := beq_iff_eq.mpr c14
   have c14b1 : (a0 != 2) = false := bne_eq_false_iff_eq.mpr c14
   clear c14
   replace H := Option.bind_eq_some_iff.mp H
   obtain ⟨t182, A150, H⟩ := H
   have A15 := Aside0.mk A150
   clear A150
   replace H := Option.bind_eq_some_iff.mp H
   obtain ⟨t183, A160, H⟩ := H
   have A16 := Aside0.mk A160
   clear A160
   obtain rfl := Option.some.inj H
   go_enter Tryd.func68, Tryd.ntmps68
   go_wp2_with (first | (go_at_call 90; (with_reducible refine (impl_isLucky.calls k a2 t182 _ A15.out).mono ?_); rintro e w' ⟨rfl, ⟨nd, rfl⟩⟩; (try first | exact ⟨rfl, _, World.drewN_drewN _ _ _⟩ | exact ⟨rfl, _, Eq.trans (World.drewN_drewN _ _ _) (congrArg (World.drewN _) (Nat.add_assoc _ _ _))⟩)) | (go_at_call 89; (with_reducible refine (impl_bit.calls t182 t183 _ A16.out).mono ?_); rintro e w' ⟨rfl, ⟨nd, rfl⟩⟩; (try first | exact ⟨rfl, _, World.drewN_drewN _ _ _⟩ | exact ⟨rfl, _, Eq.trans (World.drewN_drewN _ _ _) (congrArg (World.drewN _) (Nat.add_assoc _ _ _))⟩)))
   repeat (go_quiet (first | (go_at_call 89; (with_reducible refine (impl_bit.calls t182 t183 _ A16.out).mono ?_); rintro e w' ⟨rfl, ⟨nd, rfl⟩⟩; (try first | exact ⟨rfl, _, World.drewN_drewN _ _ _⟩ | exact ⟨rfl, _, Eq.trans (World.drewN_drewN _ _ _) (congrArg (World.drewN _) (Nat.add_assoc _ _ _))⟩))); try go_wp2_with (first | (go_at_call 90; (with_reducible refine (impl_isLucky.calls k a2 t182 _ A15.out).mono ?_); rintro e w' ⟨rfl, ⟨nd, rfl⟩⟩; (try first | exact ⟨rfl, _, World.drewN_drewN _ _ _⟩ | exact ⟨rfl, _, Eq.trans (World.drewN_drewN _ _ _) (congrArg (World.drewN _) (Nat.add_assoc _ _ _))⟩)) | (go_at_call 89; (with_reducible refine (impl_bit.calls t182 t183 _ A16.out).mono ?_); rintro e w' ⟨rfl, ⟨nd, rfl⟩⟩; (try first | exact ⟨rfl, _, World.drewN_drewN _ _ _⟩ | exact ⟨rfl, _, Eq.trans (World.drewN_drewN _ _ _) (congrArg (World.drewN _) (Nat.add_assoc _ _ _))⟩))))
   go_ret
   exact ⟨by first | rfl | (simp [errW_none, errW_some] <;> rfl) | (simp [*, errW_none, errW_some] <;> rfl), by repeat (first | (with_reducible first | exact HB.out | apply below_alloc | apply pw_below_drewN | apply below_drew1) | exact HB.out)⟩
 rw [if_neg c14] at H
 have c14b0 : (a0 == 2) = false := beq_eq_false_iff_ne.mpr c14
 have c14b1 : (a0 != 2) = true := bne_iff_ne.mpr c14
 by_cases c17 : a0 = 3
 · rw [if_pos c17] at H
   have c17b0 : (a0 == 3) = true := beq_iff_eq.mpr c17
   have c17b1 : (a0 != 3) = false := bne_eq_false_iff_eq.mpr c17
   clear c17
   by_cases c18 : 0 ≤ a1
   rotate_left
   · exact none_ (if_neg c18) H
   rw [if_pos c18] at H
   have c18b0 : decide (0 ≤ a1) = true := decide_eq_true c18
   clear c18
   by_cases c19 : a1 < (a2.size : Int)
   rotate_left
   · exact none_ (if_neg c19) H
   rw [if_pos c19] at H
   have c19b0 : decide (a1 < (a2.size : Int)) = true := decide_eq_true c19
   clear c19
   obtain ⟨ji21, hji21⟩ : ∃ j_ : Int, (wrap64 (a1 + 1)) = j_ := ⟨_, rfl⟩
   replace H : (if 0 ≤ (ji21) then (if (ji21) < (a2.size : Int) then ((impl_bit.f (decide ((bt a2 a1) < (bt a2 (ji21))))).bind fun t184 => (some t184)) else (none)) else (none)) = some r := by first | (rw [hji21] at H; exact H) | (simp only [hji21] at H ⊢; exact H)
   have hji21w : (IntKind.i64.wrap (a1 + 1)) = ji21 := (i64_w _).trans hji21
   by_cases c22 : 0 ≤ (ji21)
   rotate_left
   · exact none_ (if_neg c22) H
   rw [if_pos c22] at H
   have c22b0 : decide (0 ≤ (ji21)) = true := decide_eq_true c22
   clear c22
   by_cases c23 : (ji21) < (a2.size : Int)
   rotate_left
   · exact none_ (if_neg c23) H
   rw [if_pos c23] at H
   have c23b0 : decide ((ji21) < (a2.size : Int)) = true := decide_eq_true c23
   clear c23
   replace H := Option.bind_eq_some_iff.mp H
   obtain ⟨t184, A250, H⟩ := H
   have A25 := Aside0.mk A250
   clear A250
   obtain rfl := Option.some.inj H
   have p20 : 0 ≤ (a1 : Int) := of_decide_eq_true z7_3_
   have q20 : a1 < (a2.size : Int) := of_decide_eq_true z7_3_
   have hx20 := bt_at a2 a1
   replace p20 := eq_true p20
   replace q20 := eq_true q20
   have p24 : 0 ≤ ((ji21) : Int) := of_decide_eq_true z7_3_
   have q24 : (ji21) < (a2.size : Int) := of_decide_eq_true z7_3_
   have hx24 := bt_at a2 (ji21)
   replace p24 := eq_true p24
   replace q24 := eq_true q24
   go_enter Tryd.func68, Tryd.ntmps68
   go_wp2_with (first | (go_at_call 89; (with_reducible refine (impl_bit.calls (decide ((bt a2 a1) < (bt a2 (ji21)))) t184 _ A25.out).mono ?_); rintro e w' ⟨rfl, ⟨nd, rfl⟩⟩; (try first | exact ⟨rfl, _, World.drewN_drewN _ _ _⟩ | exact ⟨rfl, _, Eq.trans (World.drewN_drewN _ _ _) (congrArg (World.drewN _) (Nat.add_assoc _ _ _))⟩)))
   repeat (go_quiet (first | (go_at_call 89; (with_reducible refine (impl_bit.calls (decide ((bt a2 a1) < (bt a2 (ji21)))) t184 _ A25.out).mono ?_); rintro e w' ⟨rfl, ⟨nd, rfl⟩⟩; (try first | exact ⟨rfl, _, World.drewN_drewN _ _ _⟩ | exact ⟨rfl, _, Eq.trans (World.drewN_drewN _ _ _) (congrArg (World.drewN _) (Nat.add_assoc _ _ _))⟩))); try go_wp2_with (first | (go_at_call 89; (with_reducible refine (impl_bit.calls (decide ((bt a2 a1) < (bt a2 (ji21)))) t184 _ A25.out).mono ?_); rintro e w' ⟨rfl, ⟨nd, rfl⟩⟩; (try first | exact ⟨rfl, _, World.drewN_drewN _ _ _⟩ | exact ⟨rfl, _, Eq.trans (World.drewN_drewN _ _ _) (congrArg (World.drewN _) (Nat.add_assoc _ _ _))⟩))))
   go_ret
   exact ⟨by first | rfl | (simp [errW_none, errW_some] <;> rfl) | (simp only [← hji21]; first | rfl | (simp [errW_none, errW_some] <;> rfl)) | (simp [*, errW_none, errW_some] <;> rfl), by repeat (first | (with_reducible first | exact HB.out | apply below_alloc | apply pw_below_drewN | apply below_drew1) | exact HB.out)⟩
 rw [if_neg c17] at H
 have c17b0 : (a0 == 3) = false := beq_eq_false_iff_ne.mpr c17
 have c17b1 : (a0 != 3) = true := bne_iff_ne.mpr c17
 replace H := Option.bind_eq_some_iff.mp H
 obtain ⟨t185, A260, H⟩ := H
 have A26 := Aside0.mk A260
 clear A260
 obtain rfl := Option.some.inj H
 go_enter Tryd.func68, Tryd.ntmps68
 go_wp2_with (first | (go_at_call 91; (with_reducible refine (impl_differs.calls k a2 t185 _ A26.out).mono ?_); rintro e w27 ⟨rfl, hb⟩; have n0_ := Aside0.mk (below_step z7_0_ hb); clear HB; have HB := n0_; clear n0_; (try clear hb); (try clear hb2); (try clear hk); (try clear hi)))
 repeat (go_quiet (fail); try go_wp2_with (first | (go_at_call 91; (with_reducible refine (impl_differs.calls k a2 t185 _ A26.out).mono ?_); rintro e w27 ⟨rfl, hb⟩; have n0_ := Aside0.mk (below_step z7_0_ hb); clear HB; have HB := n0_; clear n0_; (try clear hb); (try clear hb2); (try clear hk); (try clear hi))))
 go_ret
 exact ⟨by first | rfl | (simp [errW_none, errW_some] <;> rfl) | (simp [*, errW_none, errW_some] <;> rfl), by repeat (first | (with_reducible first | exact HB.out | apply below_alloc | apply pw_below_drewN | apply below_drew1) | exact HB.out)⟩

/-! ### impl_numberOf: function 85 -/
def impl_numberOf.l0 : Nat → ByteArray → Int → Int → Int → Option (Int)
 | 0, _, _, _, _ => none
 | k + 1, x0, x3, x6, x7 => if x7 < x6 then (if 0 ≤ x7 then (if x7 < (x0.size : Int) then (impl_numberOf.l0 k x0 (wrap64 ((wrap64 (10 * x3)) + (((bt x0 x7) - 48) % 256))) x6 (wrap64 (x7 + 1))) else (none)) else (none)) else (some x3)
def impl_numberOf.f (k : Nat) (a0 : ByteArray) : Option (Int) := impl_numberOf.l0 k a0 0 (a0.size : Int) 0
theorem impl_numberOf.mono_l : ∀ k, (∀ y0 y1 y2 y3, LeO (impl_numberOf.l0 k y0 y1 y2 y3) (impl_numberOf.l0 (k + 1) y0 y1 y2 y3))
 | 0 => fun _ _ _ _ r h => by simp [impl_numberOf.l0] at h
 | k + 1 => by
  have ih0 := impl_numberOf.mono_l k
  intro y0 y1 y2 y3
  unfold impl_numberOf.l0
  repeat' first
  | (with_reducible exact ih0 _ _ _ _)
  | (with_reducible exact LeO.refl _)
  | (with_reducible exact LeO.none _)
  | (with_reducible refine LeO.ite ?_ ?_)
  | (with_reducible refine LeO.bind ?_ (fun _ => ?_))
  | exact ih0 _ _ _ _
  | exact LeO.none _
  | refine LeO.ite ?_ ?_
  | refine LeO.bind ?_ (fun _ => ?_)
theorem impl_numberOf.mono : ∀ a0 k, LeO (impl_numberOf.f k a0) (impl_numberOf.f (k + 1) a0) := by
 intro a0 k
 have ih0 := impl_numberOf.mono_l k
 unfold impl_numberOf.f
 repeat' first
  | (with_reducible exact ih0 _ _ _ _)
  | (with_reducible exact LeO.refl _)
  | (with_reducible exact LeO.none _)
  | (with_reducible refine LeO.ite ?_ ?_)
  | (with_reducible refine LeO.bind ?_ (fun _ => ?_))
  | exact ih0 _ _ _ _
  | exact LeO.none _
  | refine LeO.ite ?_ ?_
  | refine LeO.bind ?_ (fun _ => ?_)
set_option maxHeartbeats 8000000 in
set_option maxRecDepth 100000 in
theorem impl_numberOf.calls (k : Nat) (a0 : ByteArray) (r : Int) (w : World) (h : impl_numberOf.f k a0 = some r) :
 Calls Tryd.prog 85 #[.string a0] w fun e w' => e = .returned (.int .i64 r) ∧ Drawn0 w w' := by
 have H : (impl_numberOf.l0 k a0 0 (a0.size : Int) 0) = some r := h
 clear h
 have H' := Aside0.mk H
 clear H
 go_enter Tryd.func85, Tryd.ntmps85
 go_wp2
 go_loopg [3, 7] k (fun kq v3 v7 w' => ∃ (x3_1 : Int) (x7_1 : Int), v3 = .int .i64 x3_1 ∧ v7 = .int .i64 x7_1 ∧ Aside0 (impl_numberOf.l0 kq a0 x3_1 (a0.size : Int) x7_1 = some r) ∧ Aside0 (kq ≤ k) ∧ Drawn0 w w')
 case atStart => exact ⟨(0), (0), (by first | rfl | (simp; done) | (simp [*]; done)), (by first | rfl | (simp; done) | (simp [*]; done)), H', ⟨Nat.le_refl _⟩, by repeat (first | exact Drawn0.refl _ | apply Drawn0.step)⟩
 case round =>
  clear H'
  obtain ⟨x3_1, x7_1, rfl, rfl, HA, HK1, ⟨m1, rfl⟩⟩ := hrel
  cases gk with
  | zero => exact absurd HA.out (by simp [impl_numberOf.l0])
  | succ k1 =>
   have H := HA.out
   clear HA
   simp only [impl_numberOf.l0] at H
   by_cases c2 : x7_1 < (a0.size : Int)
   · rw [if_pos c2] at H
     have c2b0 : decide (x7_1 < (a0.size : Int)) = true := decide_eq_true c2
     clear c2
     by_cases c3 : 0 ≤ x7_1
     rotate_left
     · exact none_ (if_neg c3) H
     rw [if_pos c3] at H
     have c3b0 : decide (0 ≤ x7_1) = true := decide_eq_true c3
     clear c3
     by_cases c4 : x7_1 < (a0.size : Int)
     rotate_left
     · exact none_ (if_neg c4) H
     rw [if_pos c4] at H
     have c4b0 : decide (x7_1 < (a0.size : Int)) = true := decide_eq_true c4
     clear c4
     have H' := Aside0.mk H
     clear H
     have p5 : 0 ≤ (x7_1 : Int) := of_decide_eq_true z7_3_
     have q5 : x7_1 < (a0.size : Int) := of_decide_eq_true z7_3_
     have hx5 := bt_at a0 x7_1
     replace p5 := eq_true p5
     replace q5 := eq_true q5
     go_wp2
     go_roundg k1
     case measure => have := HK1.out; omega
     case rel => exact ⟨(wrap64 ((wrap64 (10 * x3_1)) + (((bt a0 x7_1) - 48) % 256))), (wrap64 (x7_1 + 1)), (by first | rfl | (simp; done) | (simp [*]; done)), (by first | rfl | (simp; done) | (simp [*]; done)), H', ⟨by have := HK1.out; omega⟩, by repeat (first | exact Drawn0.refl _ | apply Drawn0.step)⟩
   rw [if_neg c2] at H
   have c2b0 : decide (x7_1 < (a0.size : Int)) = false := decide_eq_false c2
   clear c2
   obtain rfl := Option.some.inj H
   go_wp2
   go_ret
   exact ⟨by first | rfl | (simp; done) | (simp [*]; done), by repeat (first | exact Drawn0.refl _ | apply Drawn0.step)⟩

/-! ### impl_Clue_fits: function 56 -/
def impl_Clue_fits.f (k : Nat) (a0_0 : Int) (a0_1 : Int) (a0_2 : Int) (a1 : ByteArray) : Option (Bool) := if a0_0 = 5 then ((impl_numberOf.f k a1).bind fun t187 => (if a0_2 = 0 then (none) else (some ((Int.tmod t187 a0_2) == 0)))) else ((impl_told.f k a0_0 a0_1 a1).bind fun t188 => (some (t188 == a0_2)))
theorem impl_Clue_fits.mono : ∀ a0 a1 a2 a3 k, LeO (impl_Clue_fits.f k a0 a1 a2 a3) (impl_Clue_fits.f (k + 1) a0 a1 a2 a3) := by
 intro a0 a1 a2 a3 k
 unfold impl_Clue_fits.f
 repeat' first
  | (with_reducible exact impl_numberOf.mono _ _)
  | (with_reducible exact impl_told.mono _ _ _ _)
  | (with_reducible exact LeO.refl _)
  | (with_reducible exact LeO.none _)
  | (with_reducible refine LeO.ite ?_ ?_)
  | (with_reducible refine LeO.bind ?_ (fun _ => ?_))
  | exact impl_numberOf.mono _ _
  | exact impl_told.mono _ _ _ _
  | exact LeO.none _
  | refine LeO.ite ?_ ?_
  | refine LeO.bind ?_ (fun _ => ?_)
def impl_Clue_fits.T3 : Bool × List (List Nat × List Nat) := (true, [([], []), ([0], [0]), ([], []), ([2], [2]), ([], []), ([1, 3, 4], [1, 3, 4]), ([], []), ([6], [6]), ([5, 7], [5, 7]), ([8, 5, 0, 1, 2, 3, 4, 5, 6, 7, 8], [8])])
def impl_Clue_fits.B3 : List Nat := [0, 1, 0, 4, 0, 31, 0, 64, 255, 511]
theorem impl_Clue_fits.tab3 : rtab .any (opsOf Tryd.f56 3) = impl_Clue_fits.T3 := by kernel_rfl
theorem impl_Clue_fits.bits3 : waitsOk impl_Clue_fits.T3.2 impl_Clue_fits.B3 = true := by kernel_rfl
set_option maxHeartbeats 8000000 in
set_option maxRecDepth 100000 in
theorem impl_Clue_fits.calls (k : Nat) (a0_0 : Int) (a0_1 : Int) (a0_2 : Int) (a1 : ByteArray) (r : Bool) (w : World) (h : impl_Clue_fits.f k a0_0 a0_1 a0_2 a1 = some r) :
 Calls Tryd.prog 56 #[.agg #[.int .i64 a0_0, .int .i64 a0_1, .int .i64 a0_2], .string a1] w fun e w' => e = .returned (.bool r) ∧ Below w.heap.size w w' := by
 have hu26 := Tryd.underlying26
 have HB := Aside0.mk (Below.refl w.heap.size w)
 have H : (if a0_0 = 5 then ((impl_numberOf.f k a1).bind fun t187 => (if a0_2 = 0 then (none) else (some ((Int.tmod t187 a0_2) == 0)))) else ((impl_told.f k a0_0 a0_1 a1).bind fun t188 => (some (t188 == a0_2)))) = some r := h
 clear h
 by_cases c3 : a0_0 = 5
 · rw [if_pos c3] at H
   have c3b0 : (a0_0 == 5) = true := beq_iff_eq.mpr c3
   have c3b1 : (a0_0 != 5) = false := bne_eq_false_iff_eq.mpr c3
   clear c3
   replace H := Option.bind_eq_some_iff.mp H
   obtain ⟨t187, A40, H⟩ := H
   have A4 := Aside0.mk A40
   clear A40
   by_cases c5 : a0_2 = 0
   · exact none_ (if_pos c5) H
   rw [if_neg c5] at H
   have c5b0 : (a0_2 == 0) = false := beq_eq_false_iff_ne.mpr c5
   have c5b1 : (a0_2 != 0) = true := bne_iff_ne.mpr c5
   obtain rfl := Option.some.inj H
   go_enter Tryd.func56, Tryd.ntmps56
   try go_wp2_with (first | ((with_reducible refine gate_dst (N := 2) rfl ?_); refine box_event ?hg (N := 2) ?hd (cs := #[.int .i64 a0_0, .int .i64 a0_1, .int .i64 a0_2]) (t := 26) ?hr ?_; (case hd => rfl); (case hg => rfl); (case hr => first | (go_simp; done) | (go_simp; rfl)); intro gb186 hg w6 hbox hb; have n0_ := Aside0.mk (below_step z7_0_ hb); have n1_ := Aside0.mk (hbox); have n2_ := Aside0.mk ((by rw [hg]; exact (below_size z7_0_) : w.heap.size ≤ gb186)); have n3_ := Aside0.mk ((by rw [hg]; exact (below_size z7_0_) : w.heap.size ≤ gb186)); clear HB; have HB := n0_; have BK186 := n1_; have GW186 := n2_; have GE186 := n3_; clear n0_ n1_ n2_ n3_; clear hb hbox hg; have hcz7_0 : w6.cell? ⟨gb186, 0, none⟩ = some (.int .i64 a0_0) := (blk_cell BK186.out 0).trans rfl; have hcz7_1 : w6.cell? ⟨gb186, 1, none⟩ = some (.int .i64 a0_1) := (blk_cell BK186.out 1).trans rfl; have hcz7_2 : w6.cell? ⟨gb186, 2, none⟩ = some (.int .i64 a0_2) := (blk_cell BK186.out 2).trans rfl; have hfz7_0 := blk_frozen BK186.out 0; have hfz7_1 := blk_frozen BK186.out 1; have hfz7_2 := blk_frozen BK186.out 2))
   have n0_ := Aside0.mk (blk_drew BK186.out)
   have n1_ := Aside0.mk (below_drew1 HB.out)
   clear BK186
   clear HB
   have BK186 := n0_
   have HB := n1_
   clear n0_ n1_
   refine start_ (n := 7) (S := fun w' => w'.cell? ⟨gb186, 0, none⟩ = some (.int .i64 a0_0) ∧ w'.cell? ⟨gb186, 1, none⟩ = some (.int .i64 a0_1) ∧ w'.cell? ⟨gb186, 2, none⟩ = some (.int .i64 a0_2)) (ds := []) #[false, false, false, false, false, false, false] (by kernel_rfl) rfl rfl ⟨(blk_cell BK186.out 0).trans rfl, (blk_cell BK186.out 1).trans rfl, (blk_cell BK186.out 2).trans rfl⟩ (fun hHeld => ?_)
   generalize w6.drew = w8 at BK186 HB hHeld ⊢
   refine pure_ (i := 0) (N := some 8) (v := ?_) (a' := ?_) #[true, false, false, false, false, false, false] rfl rfl (by kernel_rfl) (fun _ _ _ h => h) (Or.inl ⟨by rfl, ?_⟩) ?_ ?_
   rotate_left
   · intro w'
     go_simp
     with_reducible rfl
   rotate_left
   · simp only [Act.put, List.setIfInBounds_toArray, List.set_cons_zero, List.set_cons_succ, i64_w, i32_w]
     rfl
   refine pure_ (i := 2) (N := some 10) (v := ?_) (a' := ?_) #[true, false, true, false, false, false, false] rfl rfl (by kernel_rfl) (fun _ _ _ h => h) (Or.inl ⟨by rfl, ?_⟩) ?_ ?_
   rotate_left
   · intro w'
     go_simp
     with_reducible rfl
   rotate_left
   · simp only [Act.put, List.setIfInBounds_toArray, List.set_cons_zero, List.set_cons_succ, i64_w, i32_w]
     rfl
   refine take_ (i := 3) (N := some 11) (v := ?_) (a' := ?_) #[true, false, true, true, false, false, false] rfl rfl (by kernel_rfl) (fun _ _ _ h => h) (Or.inl ⟨by rfl, ?_⟩) hHeld ?_ ?_
   rotate_left
   · rintro w' ⟨s0, s1, s2⟩
     go_simp
     with_reducible rfl
   rotate_left
   · simp only [Act.put, List.setIfInBounds_toArray, List.set_cons_zero, List.set_cons_succ, i64_w, i32_w]
     rfl
   refine one_ (i := 1) (N := some 9) #[true, true, true, true, false, false, false] rfl rfl (by kernel_rfl) (by decide) (fun K hK => ?_)
   refine goes_ Tryd.func85 (by kernel_rfl) rfl #[.string a1] (by rfl) rfl rfl z7_1_ ?_
   with_reducible refine (impl_numberOf.calls k a1 t187 _ A4.out).mono ?_
   rintro e w' ⟨rfl, ⟨nd, rfl⟩⟩
   refine ⟨_, rfl, ?_⟩
   refine hK.out _ _ ⟨(blk_cell BK186.out 0).trans rfl, (blk_cell BK186.out 1).trans rfl, (blk_cell BK186.out 2).trans rfl⟩ (fun hHeld => ?_)
   clear hK K
   refine norm_ (a' := ?_) ?_ ?_
   rotate_left
   · show Act.put _ (some 9) _ = _
     simp only [Act.put, List.setIfInBounds_toArray, List.set_cons_zero, List.set_cons_succ, i64_w, i32_w]
     rfl
   refine pure_ (i := 4) (N := some 12) (v := ?_) (a' := ?_) #[true, true, true, true, true, false, false] rfl rfl (by kernel_rfl) (fun _ _ _ h => h) (Or.inl ⟨by rfl, ?_⟩) ?_ ?_
   rotate_left
   · intro w'
     go_simp
     with_reducible rfl
   rotate_left
   · simp only [Act.put, List.setIfInBounds_toArray, List.set_cons_zero, List.set_cons_succ, i64_w, i32_w]
     rfl
   refine pure_ (i := 5) (N := some 13) (v := ?_) (a' := ?_) #[true, true, true, true, true, true, false] rfl rfl (by kernel_rfl) (fun _ _ _ h => h) (Or.inl ⟨by rfl, ?_⟩) ?_ ?_
   rotate_left
   · intro w'
     go_simp
     with_reducible rfl
   rotate_left
   · simp only [Act.put, List.setIfInBounds_toArray, List.set_cons_zero, List.set_cons_succ, i64_w, i32_w]
     rfl
   refine pure_ (i := 6) (N := some 4) (v := ?_) (a' := ?_) #[true, true, true, true, true, true, true] rfl rfl (by kernel_rfl) (fun _ _ _ h => h) (Or.inl ⟨by rfl, ?_⟩) ?_ ?_
   rotate_left
   · intro w'
     go_simp
     with_reducible rfl
   rotate_left
   · simp only [Act.put, List.setIfInBounds_toArray, List.set_cons_zero, List.set_cons_succ, i64_w, i32_w]
     rfl
   refine done_ (by kernel_rfl) ?_
   try go_wp2
   go_ret
   exact ⟨by first | rfl | (simp [errW_none, errW_some] <;> rfl) | (simp [*, errW_none, errW_some] <;> rfl), by repeat (first | (with_reducible first | exact HB.out | apply below_alloc | apply pw_below_drewN | apply below_drew1 | refine below_set ?_ GE186.out) | exact HB.out)⟩
 rw [if_neg c3] at H
 have c3b0 : (a0_0 == 5) = false := beq_eq_false_iff_ne.mpr c3
 have c3b1 : (a0_0 != 5) = true := bne_iff_ne.mpr c3
 replace H := Option.bind_eq_some_iff.mp H
 obtain ⟨t188, A90, H⟩ := H
 have A9 := Aside0.mk A90
 clear A90
 obtain rfl := Option.some.inj H
 go_enter Tryd.func56, Tryd.ntmps56
 try go_wp2_with (first | ((with_reducible refine gate_dst (N := 2) rfl ?_); refine box_event ?hg (N := 2) ?hd (cs := #[.int .i64 a0_0, .int .i64 a0_1, .int .i64 a0_2]) (t := 26) ?hr ?_; (case hd => rfl); (case hg => rfl); (case hr => first | (go_simp; done) | (go_simp; rfl)); intro gb186 hg w10 hbox hb; have n0_ := Aside0.mk (below_step z7_0_ hb); have n1_ := Aside0.mk (hbox); have n2_ := Aside0.mk ((by rw [hg]; exact (below_size z7_0_) : w.heap.size ≤ gb186)); have n3_ := Aside0.mk ((by rw [hg]; exact (below_size z7_0_) : w.heap.size ≤ gb186)); clear HB; have HB := n0_; have BK186 := n1_; have GW186 := n2_; have GE186 := n3_; clear n0_ n1_ n2_ n3_; clear hb hbox hg; have hcz11_0 : w10.cell? ⟨gb186, 0, none⟩ = some (.int .i64 a0_0) := (blk_cell BK186.out 0).trans rfl; have hcz11_1 : w10.cell? ⟨gb186, 1, none⟩ = some (.int .i64 a0_1) := (blk_cell BK186.out 1).trans rfl; have hcz11_2 : w10.cell? ⟨gb186, 2, none⟩ = some (.int .i64 a0_2) := (blk_cell BK186.out 2).trans rfl; have hfz11_0 := blk_frozen BK186.out 0; have hfz11_1 := blk_frozen BK186.out 1; have hfz11_2 := blk_frozen BK186.out 2))
 have n0_ := Aside0.mk (blk_drew BK186.out)
 have n1_ := Aside0.mk (below_drew1 HB.out)
 clear BK186
 clear HB
 have BK186 := n0_
 have HB := n1_
 clear n0_ n1_
 refine start_ (n := 10) (S := fun w' => w'.cell? ⟨gb186, 0, none⟩ = some (.int .i64 a0_0) ∧ w'.cell? ⟨gb186, 1, none⟩ = some (.int .i64 a0_1) ∧ w'.cell? ⟨gb186, 2, none⟩ = some (.int .i64 a0_2)) (ds := []) #[false, false, false, false, false, false, false, false, false, false] (by kernel_rfl) rfl rfl ⟨(blk_cell BK186.out 0).trans rfl, (blk_cell BK186.out 1).trans rfl, (blk_cell BK186.out 2).trans rfl⟩ (fun hHeld => ?_); refine with_tabW impl_Clue_fits.tab3 impl_Clue_fits.bits3 (fun HT_ HW_ => ?_)
 generalize w10.drew = w12 at BK186 HB hHeld ⊢
 refine pure_ (i := 0) (N := some 14) (v := ?_) (a' := ?_) #[true, false, false, false, false, false, false, false, false, false] rfl rfl (any_of HT_.out (by kernel_rfl)) (fun _ _ _ h => h) (Or.inl ⟨by rfl, ?_⟩) ?_ ?_
 rotate_left
 · intro w'
   go_simp
   with_reducible rfl
 rotate_left
 · simp only [Act.put, List.setIfInBounds_toArray, List.set_cons_zero, List.set_cons_succ, i64_w, i32_w]
   rfl
 refine pure_ (i := 2) (N := some 16) (v := ?_) (a' := ?_) #[true, false, true, false, false, false, false, false, false, false] rfl rfl (any_of HT_.out (by kernel_rfl)) (fun _ _ _ h => h) (Or.inl ⟨by rfl, ?_⟩) ?_ ?_
 rotate_left
 · intro w'
   go_simp
   with_reducible rfl
 rotate_left
 · simp only [Act.put, List.setIfInBounds_toArray, List.set_cons_zero, List.set_cons_succ, i64_w, i32_w]
   rfl
 refine pure_ (i := 4) (N := some 18) (v := ?_) (a' := ?_) #[true, false, true, false, true, false, false, false, false, false] rfl rfl (any_of HT_.out (by kernel_rfl)) (fun _ _ _ h => h) (Or.inl ⟨by rfl, ?_⟩) ?_ ?_
 rotate_left
 · intro w'
   go_simp
   with_reducible rfl
 rotate_left
 · simp only [Act.put, List.setIfInBounds_toArray, List.set_cons_zero, List.set_cons_succ, i64_w, i32_w]
   rfl
 refine pure_ (i := 6) (N := some 20) (v := ?_) (a' := ?_) #[true, false, true, false, true, false, true, false, false, false] rfl rfl (any_of HT_.out (by kernel_rfl)) (fun _ _ _ h => h) (Or.inl ⟨by rfl, ?_⟩) ?_ ?_
 rotate_left
 · intro w'
   go_simp
   with_reducible rfl
 rotate_left
 · simp only [Act.put, List.setIfInBounds_toArray, List.set_cons_zero, List.set_cons_succ, i64_w, i32_w]
   rfl
 refine take_ (i := 1) (N := some 15) (v := ?_) (a' := ?_) #[true, true, true, false, true, false, true, false, false, false] rfl rfl (take_ofW HT_.out HW_.out (by kernel_rfl)) (fun _ _ _ h => h) (Or.inl ⟨by rfl, ?_⟩) hHeld ?_ ?_
 rotate_left
 · rintro w' ⟨s0, s1, s2⟩
   go_simp
   with_reducible rfl
 rotate_left
 · simp only [Act.put, List.setIfInBounds_toArray, List.set_cons_zero, List.set_cons_succ, i64_w, i32_w]
   rfl
 refine take_ (i := 3) (N := some 17) (v := ?_) (a' := ?_) #[true, true, true, true, true, false, true, false, false, false] rfl rfl (take_ofW HT_.out HW_.out (by kernel_rfl)) (fun _ _ _ h => h) (Or.inl ⟨by rfl, ?_⟩) hHeld ?_ ?_
 rotate_left
 · rintro w' ⟨s0, s1, s2⟩
   go_simp
   with_reducible rfl
 rotate_left
 · simp only [Act.put, List.setIfInBounds_toArray, List.set_cons_zero, List.set_cons_succ, i64_w, i32_w]
   rfl
 refine take_ (i := 7) (N := some 21) (v := ?_) (a' := ?_) #[true, true, true, true, true, false, true, true, false, false] rfl rfl (take_ofW HT_.out HW_.out (by kernel_rfl)) (fun _ _ _ h => h) (Or.inl ⟨by rfl, ?_⟩) hHeld ?_ ?_
 rotate_left
 · rintro w' ⟨s0, s1, s2⟩
   go_simp
   with_reducible rfl
 rotate_left
 · simp only [Act.put, List.setIfInBounds_toArray, List.set_cons_zero, List.set_cons_succ, i64_w, i32_w]
   rfl
 refine one_ (i := 5) (N := some 19) #[true, true, true, true, true, true, true, true, false, false] rfl rfl (one_of HT_.out (by kernel_rfl)) (by decide) (fun K hK => ?_)
 refine goes_ Tryd.func68 (by kernel_rfl) rfl #[.int .i64 a0_0, .int .i64 a0_1, .string a1] (by rfl) rfl rfl z7_1_ ?_
 with_reducible refine (impl_told.calls k a0_0 a0_1 a1 t188 _ A9.out).mono ?_
 rintro e w13 ⟨rfl, hb⟩
 refine ⟨_, rfl, ?_⟩
 have n0_ := Aside0.mk (blk_below (g := gb186) (o := .cells #[.int .i64 a0_0, .int .i64 a0_1, .int .i64 a0_2] 26 (0, 0)) (by (with_reducible repeat (first | refine blk_drewN ?_ _ | refine blk_drew ?_ | refine blk_alloc ?_ _)); exact BK186.out) hb)
 have n1_ := Aside0.mk (below_step (by repeat (first | (with_reducible first | exact HB.out | apply below_alloc | apply pw_below_drewN | apply below_drew1 | refine below_set ?_ GE186.out) | exact HB.out)) hb)
 clear BK186
 clear HB
 have BK186 := n0_
 have HB := n1_
 clear n0_ n1_
 (try clear hb)
 (try clear hb2)
 (try clear hk)
 (try clear hi)
 refine hK.out _ _ ⟨(blk_cell BK186.out 0).trans rfl, (blk_cell BK186.out 1).trans rfl, (blk_cell BK186.out 2).trans rfl⟩ (fun hHeld => ?_)
 clear hK K
 refine norm_ (a' := ?_) ?_ ?_
 rotate_left
 · show Act.put _ (some 19) _ = _
   simp only [Act.put, List.setIfInBounds_toArray, List.set_cons_zero, List.set_cons_succ, i64_w, i32_w]
   rfl
 refine pure_ (i := 8) (N := some 22) (v := ?_) (a' := ?_) #[true, true, true, true, true, true, true, true, true, false] rfl rfl (any_of HT_.out (by kernel_rfl)) (fun _ _ _ h => h) (Or.inl ⟨by rfl, ?_⟩) ?_ ?_
 rotate_left
 · intro w'
   go_simp
   with_reducible rfl
 rotate_left
 · simp only [Act.put, List.setIfInBounds_toArray, List.set_cons_zero, List.set_cons_succ, i64_w, i32_w]
   rfl
 refine pure_ (i := 9) (N := some 4) (v := ?_) (a' := ?_) #[true, true, true, true, true, true, true, true, true, true] rfl rfl (any_of HT_.out (by kernel_rfl)) (fun _ _ _ h => h) (Or.inl ⟨by rfl, ?_⟩) ?_ ?_
 rotate_left
 · intro w'
   go_simp
   with_reducible rfl
 rotate_left
 · simp only [Act.put, List.setIfInBounds_toArray, List.set_cons_zero, List.set_cons_succ, i64_w, i32_w]
   rfl
 refine done_ (done_of HT_.out (by kernel_rfl)) ?_
 try go_wp2
 go_ret
 exact ⟨by first | rfl | (simp [errW_none, errW_some] <;> rfl) | (simp [*, errW_none, errW_some] <;> rfl), by repeat (first | (with_reducible first | exact HB.out | apply below_alloc | apply pw_below_drewN | apply below_drew1 | refine below_set ?_ GE186.out) | exact HB.out)⟩

/-! ### strconv_Itoa: function 94 -/
def strconv_Itoa.f (a0 : Int) : Option ByteArray := if 0 ≤ a0 then (if a0 < 100 then some ⟨(Lib.decDigits a0.toNat).toArray⟩ else none) else none
theorem strconv_Itoa.calls (a0 : Int) (r : ByteArray) (w : World) (h : strconv_Itoa.f a0 = some r) :
 Calls Tryd.prog 94 #[.int .i64 a0] w fun e w' => e = .returned (.string r) ∧ Drawn0 w w' := by
 unfold strconv_Itoa.f at h
 by_cases h0 : 0 ≤ a0
 rotate_left
 · exact none_ (if_neg h0) h
 rw [if_pos h0] at h
 by_cases h1 : a0 < 100
 rotate_left
 · exact none_ (if_neg h1) h
 rw [if_pos h1] at h
 obtain rfl := Option.some.inj h
 obtain ⟨i, rfl⟩ : ∃ i : Nat, a0 = (i : Int) := ⟨a0.toNat, by omega⟩
 refine (Shelf.Itoa_small i (by omega) w).mono ?_
 rintro e w' ⟨rfl, rfl⟩
 exact ⟨by rw [Int.toNat_natCast], Drawn0.refl _⟩

/-! ### impl_solutions: function 72 -/
-- behind 71 94
def impl_solutions.digit (d : Int) : ByteArray := ⟨#[UInt8.ofNat (48 + d.toNat)]⟩
def impl_solutions.tick : Nat → Int → ByteArray → ByteArray
 | 0, _, t => t
 | i + 1, n, t => impl_solutions.tick i (n / 6) (impl_solutions.digit (n % 6) ++ t)
def impl_solutions.bad (k : Nat) (t : ByteArray) (x : S26) : Option Bool := (impl_Clue_fits.f k x.f0 x.f1 x.f2 t).map (!·)
def impl_solutions.go (k : Nat) (l : List S26) : Nat → Int → List ByteArray → Option (List ByteArray)
 | 0, _, out => some out
 | c + 1, n, out => (Fn.anyO (impl_solutions.bad k (impl_solutions.tick 4 n ByteArray.empty)) l).bind fun b => impl_solutions.go k l c (n + 1) (if b then out else out ++ [impl_solutions.tick 4 n ByteArray.empty])
def impl_solutions.f (k : Nat) (l0 : List S26) : Option (List ByteArray) := impl_solutions.go k l0 1296 0 []
theorem impl_solutions.go_mono (k : Nat) (l : List S26) : ∀ c n out, LeO (impl_solutions.go k l c n out) (impl_solutions.go (k + 1) l c n out)
 | 0, _, _ => LeO.refl _
 | c + 1, n, out => by
  unfold impl_solutions.go
  refine LeO.bind (fun r hr => Fn.anyO_le (fun x r hr => ?_) l r hr) (fun b => impl_solutions.go_mono k l c _ _)
  unfold impl_solutions.bad at hr ⊢
  obtain ⟨t, ht, h⟩ := Option.map_eq_some_iff.mp hr
  exact Option.map_eq_some_iff.mpr ⟨t, impl_Clue_fits.mono _ _ _ _ _ t ht, h⟩
theorem impl_solutions.mono : ∀ a0 k, LeO (impl_solutions.f k a0) (impl_solutions.f (k + 1) a0) := fun a0 k => impl_solutions.go_mono k a0 _ _ _
set_option maxHeartbeats 8000000 in
set_option maxRecDepth 100000 in
theorem impl_solutions_1.calls (k : Nat) (x : S26) (tk : ByteArray) (g : Nat) (r : Bool) (w : World) (hc : w.cell? ⟨g, 0, none⟩ = some (.string tk)) (h : impl_solutions.bad k tk x = some r) :
 Calls Tryd.prog 95 #[.agg #[.int .i64 x.f0, .int .i64 x.f1, .int .i64 x.f2], .pointer (some ⟨g, 0, none⟩)] w fun e w' => e = .returned (.bool r) ∧ Below w.heap.size w w' := by
 have hu26 := Tryd.underlying26
 have HB := Aside0.mk (Below.refl w.heap.size w)
 have HC := Aside0.mk hc
 obtain ⟨t, ht, h⟩ := Option.map_eq_some_iff.mp h
 subst h
 have HT := Aside0.mk ht
 clear hc ht
 go_enter Tryd.func95, Tryd.ntmps95
 go_wp2_with (first | ((with_reducible refine gate_dst (N := 2) rfl ?_); refine box_event ?hg (N := 2) ?hd (cs := #[.int .i64 x.f0, .int .i64 x.f1, .int .i64 x.f2]) (t := 26) ?hr ?_; (case hd => rfl); (case hg => rfl); (case hr => first | (go_simp; done) | (go_simp; rfl)); intro gb160 hg w3 hbox hb; have HB1 := Aside0.mk (below_step HB.out hb); have hcc : w3.cell? ⟨g, 0, none⟩ = some (.string tk) := (hb.cell (World.block_lt_of_cell? w _ HC.out)).trans HC.out; clear hb hg; have hcz4_0 : w3.cell? ⟨gb160, 0, none⟩ = some (.int .i64 x.f0) := (blk_cell hbox 0).trans rfl; have hcz4_1 : w3.cell? ⟨gb160, 1, none⟩ = some (.int .i64 x.f1) := (blk_cell hbox 1).trans rfl; have hcz4_2 : w3.cell? ⟨gb160, 2, none⟩ = some (.int .i64 x.f2) := (blk_cell hbox 2).trans rfl; clear hbox) | (go_at_call 56; (with_reducible refine (impl_Clue_fits.calls k x.f0 x.f1 x.f2 tk t _ HT.out).mono ?_); rintro e w5 ⟨rfl, hb⟩; have HB2 := Aside0.mk (below_step HB1.out hb); clear hb))
 go_ret
 exact ⟨rfl, HB2.out⟩
def impl_solutions.T8 : Bool × List (List Nat × List Nat) := (true, [([], []), ([], []), ([0, 1], [0, 1]), ([2], [2]), ([], []), ([3, 4], [3, 4]), ([5, 3, 0, 1, 2, 3, 4, 5], [5])])
def impl_solutions.B8 : List Nat := [0, 0, 3, 7, 0, 31, 63]
theorem impl_solutions.tab8 : rtab .any (opsOf Tryd.f72 8) = impl_solutions.T8 := by kernel_rfl
theorem impl_solutions.bits8 : waitsOk impl_solutions.T8.2 impl_solutions.B8 = true := by kernel_rfl
theorem impl_solutions.succ_ (n : Nat) (h : n < 4611686018427387904) : Value.int .i64 (wrap64 ((n : Int) + 1)) = Value.int .i64 ((n + 1 : Nat) : Int) := by
 have : wrap64 ((n : Int) + 1) = ((n + 1 : Nat) : Int) := by simp [wrap64]; omega
 rw [this]
theorem impl_solutions.digit_size (d : Int) : (impl_solutions.digit d).size = 1 := rfl
theorem impl_solutions.digit_ok (n : Int) (h0 : 0 ≤ n % 6) (h1 : n % 6 < 6) : strconv_Itoa.f (n % 6) = some (impl_solutions.digit (n % 6)) := by
 unfold strconv_Itoa.f impl_solutions.digit
 rw [if_pos h0, if_pos (by omega), Lib.decDigits_one (by omega)]
set_option maxHeartbeats 8000000 in
set_option maxRecDepth 100000 in
theorem impl_solutions.calls (k : Nat) (A0 : Option Addr) (c0 : Nat) (l0 : List (S26)) (r : List ByteArray) (w : World) (hr0 : Kd.C k26 w A0 l0.length l0) (hc0 : l0.length ≤ c0) (h : impl_solutions.f k l0 = some r) :
 Calls Tryd.prog 72 #[.slice A0 l0.length c0] w fun e w' => ∃ v0_ : Value, e = .returned (v0_) ∧ Kd.R Kd.string 9 w' w.heap.size (fun _ => True) v0_ r ∧ Below w.heap.size w w' := by
 have HR0 := Aside0.mk hr0
 have HC0 := Aside0.mk hc0
 have HB := Aside0.mk (Below.refl w.heap.size w)
 have H := Aside0.mk h
 clear hr0 hc0 h
 go_enter Tryd.func72, Tryd.ntmps72
 go_wp2_with (first | ((with_reducible refine gate_dst (N := 7) rfl ?_); refine Kd.R_lit Kd.string _ 9 ?hg (N := 7) ?hd (xs := ([] : List ByteArray)) (inner := []) (ok := fun _ => True) (okp := fun _ => True) ?hr ?hp (fun _ hk => hk) trivial (Below.refl _ _) (Nat.le_refl _) (by simp) ?_; (case hd => rfl); (case hg => rfl); (case hr => first | (go_simp; done) | (go_simp; rfl)); (case hp => exact (Reps.none _ _)); intro v123 w3 ho4 hb hg_ hnew_; clear hg_ hnew_; have HO := Aside0.mk ho4; have HB1 := Aside0.mk (below_step HB.out hb); clear ho4 hb HB))
 go_loopg [3, 15] 1297 (fun kq v3 v15 w' => ∃ (n : Nat) (out : List ByteArray), v15 = .int .i64 (n : Int) ∧ Aside0 (n + kq = 1297) ∧ Aside0 (out.length ≤ n) ∧ Aside0 (impl_solutions.go k l0 (1296 - n) (n : Int) out = some r) ∧ Aside0 (Kd.R Kd.string 9 w' w.heap.size (fun _ => True) v3 out) ∧ Aside0 (Below w.heap.size w w'))
 case atStart => exact ⟨0, [], rfl, ⟨by omega⟩, ⟨Nat.le_refl _⟩, H, HO, HB1⟩
 case round =>
  clear H HO HB1
  obtain ⟨n, out, rfl, HN, HL, HA, HO, HB⟩ := hrel
  by_cases c : n < 1296
  · have c1 : decide ((n : Int) < 1296) = true := decide_eq_true (by omega)
    have c2 : decide (n < 1296) = true := decide_eq_true c
    obtain ⟨b, hb0, hA⟩ : ∃ b, Fn.anyO (impl_solutions.bad k (impl_solutions.tick 4 (n : Int) ByteArray.empty)) l0 = some b ∧ impl_solutions.go k l0 (1296 - (n + 1)) ((n : Int) + 1) (if b then out else out ++ [impl_solutions.tick 4 (n : Int) ByteArray.empty]) = some r := by
     have h := HA.out
     rw [show 1296 - n = (1296 - (n + 1)) + 1 by omega] at h
     unfold impl_solutions.go at h
     exact Option.bind_eq_some_iff.mp h
    obtain ⟨T, hT⟩ : ∃ T, T = impl_solutions.tick 4 (n : Int) ByteArray.empty := ⟨_, rfl⟩
    rw [← hT] at hb0 hA
    have HT := Aside0.mk hT.symm
    have HQ := Aside0.mk hb0
    have HA2 := Aside0.mk hA
    have HC := Aside0.mk c
    clear HA hT hb0 hA c
    go_wp2
    have HO2 : Aside0 (Kd.R Kd.string 9 (wr.alloc (.cells #[.string ⟨#[]⟩] 9)) w.heap.size (fun k => k ≠ wr.heap.size) u3 out) := ⟨Kd.R_alloc (Kd.R_mono (Kd.R_elderB HO.out wr.heap.size (Nat.le_refl _)) (fun _ hk => hk.2)) _⟩
    have BK : Aside0 ((wr.alloc (.cells #[.string ⟨#[]⟩] 9)).heap[wr.heap.size]? = some (.cells #[.string ⟨#[]⟩] 9 (0, 0))) := ⟨by simp [World.alloc, -World.alloc_eq]⟩
    have HB2 : Aside0 (Below w.heap.size w (wr.alloc (.cells #[.string ⟨#[]⟩] 9))) := ⟨below_alloc HB.out _⟩
    have HG := Aside0.mk HB.out.size
    clear HO HB
    generalize (wr.alloc (.cells #[.string ⟨#[]⟩] 9)) = wa at HO2 BK HB2 ⊢
    generalize wr.heap.size = g at HO2 BK HG ⊢
    obtain ⟨nq, hnq⟩ : ∃ q, q = gk := ⟨_, rfl⟩
    subst hnq
    go_loopg [5, 18] 5 (fun kq v5 v18 w' => ∃ (i : Nat) (m : Int) (tk : ByteArray), v5 = .int .i64 m ∧ v18 = .int .i64 (i : Int) ∧ Aside0 (i + kq = 5) ∧ Aside0 (0 ≤ m ∧ m ≤ 1296) ∧ Aside0 (tk.size = i) ∧ Aside0 (impl_solutions.tick (4 - i) m tk = T) ∧ Aside0 (w'.heap[g]? = some (.cells #[.string tk] 9 (0, 0))) ∧ Aside0 (Kd.R Kd.string 9 w' w.heap.size (fun k => k ≠ g) u3 out) ∧ Aside0 (Below w.heap.size w w'))
    case atStart => exact ⟨0, (n : Int), ⟨#[]⟩, rfl, rfl, ⟨by omega⟩, ⟨by have := HC.out; omega⟩, ⟨rfl⟩, HT, BK, HO2, HB2⟩
    case round =>
     clear HT BK HO2 HB2
     obtain ⟨i, m, tk, rfl, rfl, HI, HM, HS, HT, BK, HO, HB⟩ := hrel
     by_cases d : i < 4
     · have d1 : decide ((i : Int) < 4) = true := decide_eq_true (by omega)
       have d2 : decide (i < 4) = true := decide_eq_true d
       have hM := HM.out
       have hrem : Int.tmod m 6 = m % 6 := Int.tmod_eq_emod_of_nonneg hM.1
       have hquo : Int.tdiv m 6 = m / 6 := Int.tdiv_eq_ediv_of_nonneg hM.1
       obtain ⟨q, hq⟩ : ∃ q : Int, m / 6 = q := ⟨_, rfl⟩
       obtain ⟨e, he⟩ : ∃ e : Int, m % 6 = e := ⟨_, rfl⟩
       have hw : wrap64 q = q := by simp [wrap64]; omega
       have HE := Aside0.mk (show strconv_Itoa.f e = some (impl_solutions.digit e) by rw [← he]; exact impl_solutions.digit_ok m (by omega) (by omega))
       have hT : impl_solutions.tick (4 - (i + 1)) q (impl_solutions.digit e ++ tk) = T := by
        have h := HT.out
        rw [show 4 - i = (4 - (i + 1)) + 1 by omega] at h
        unfold impl_solutions.tick at h
        rw [hq, he] at h
        exact h
       have HT2 := Aside0.mk hT
       have HQ0 := Aside0.mk (show 0 ≤ q ∧ q ≤ 1296 by omega)
       rw [hq] at hquo
       rw [he] at hrem
       obtain ⟨dg, hdg⟩ : ∃ dg, impl_solutions.digit e = dg := ⟨_, rfl⟩
       have hds : dg.size = 1 := by rw [← hdg]; rfl
       rw [hdg] at HE HT2
       have hsz : dg.size + tk.size ≤ 9223372036854775807 := by rw [hds, HS.out]; omega
       have z0 := eq_true hsz
       have z1 : decide (dg.size + tk.size ≤ 9223372036854775807) = true := decide_eq_true hsz
       have z2 : (9223372036854775807 < dg.size + tk.size) = False := eq_false (Nat.not_lt.2 hsz)
       have HDS := Aside0.mk (show (dg ++ tk).size = i + 1 by rw [ByteArray.size_append, hds, HS.out]; omega)
       have hcell := blk_cell BK.out 0
       have hfz := blk_frozen BK.out 0
       have HD := Aside0.mk d
       clear hM HT hT hq he hdg hds hsz HM HS d
       go_wp2
       have n0_ := Aside0.mk (Kd.R_drew HO.out)
       have n1_ := Aside0.mk (blk_drew BK.out)
       have n2_ := Aside0.mk (below_drew1 HB.out)
       clear HO BK HB
       have HO := n0_
       have BK := n1_
       have HB := n2_
       clear n0_ n1_ n2_ hcell hfz
       have hcell := blk_cell BK.out 0
       refine start_ (n := 7) (S := fun w' => w'.cell? ⟨g, 0, none⟩ = some (.string tk)) (ds := [6]) #[false, false, false, false, false, false, false] (by kernel_rfl) rfl rfl hcell (fun hHeld => ?_); refine with_tabW impl_solutions.tab8 impl_solutions.bits8 (fun HT_ HW_ => ?_)
       generalize wr.drew = w8 at HO BK HB hcell hHeld ⊢
       refine pure_ (i := 0) (N := some 20) (v := ?_) (a' := ?_) #[true, false, false, false, false, false, false] rfl rfl (any_of HT_.out (by kernel_rfl)) (fun _ _ _ h => h) (Or.inl ⟨by rfl, ?_⟩) ?_ ?_
       rotate_left
       · intro w'
         go_simp
         with_reducible rfl
       rotate_left
       · simp only [Act.put, List.setIfInBounds_toArray, List.set_cons_zero, List.set_cons_succ, i64_w, i32_w]
         rfl
       refine pure_ (i := 1) (N := some 21) (v := ?_) (a' := ?_) #[true, true, false, false, false, false, false] rfl rfl (any_of HT_.out (by kernel_rfl)) (fun _ _ _ h => h) (Or.inl ⟨by rfl, ?_⟩) ?_ ?_
       rotate_left
       · intro w'
         go_simp
         with_reducible rfl
       rotate_left
       · simp only [Act.put, List.setIfInBounds_toArray, List.set_cons_zero, List.set_cons_succ, i64_w, i32_w]
         rfl
       refine pure_ (i := 2) (N := some 22) (v := ?_) (a' := ?_) #[true, true, true, false, false, false, false] rfl rfl (any_of HT_.out (by kernel_rfl)) (fun _ _ _ h => h) (Or.inl ⟨by rfl, ?_⟩) ?_ ?_
       rotate_left
       · intro w'
         go_simp
         with_reducible rfl
       rotate_left
       · simp only [Act.put, List.setIfInBounds_toArray, List.set_cons_zero, List.set_cons_succ, i64_w, i32_w]
         rfl
       refine take_ (i := 4) (N := some 24) (v := ?_) (a' := ?_) #[true, true, true, false, true, false, false] rfl rfl (take_ofW HT_.out HW_.out (by kernel_rfl)) (fun _ _ _ h => h) (Or.inl ⟨by rfl, ?_⟩) hHeld ?_ ?_
       rotate_left
       · rintro w' s0
         go_simp
         with_reducible rfl
       rotate_left
       · simp only [Act.put, List.setIfInBounds_toArray, List.set_cons_zero, List.set_cons_succ, i64_w, i32_w]
         rfl
       refine one_ (i := 3) (N := some 23) #[true, true, true, true, true, false, false] rfl rfl (one_of HT_.out (by kernel_rfl)) (by decide) (fun K hK => ?_)
       refine goes_ Tryd.func94 (by kernel_rfl) rfl #[.int .i64 e] (by rfl) rfl rfl (by (try simp only [List.map_toArray, List.map_cons, List.map_nil]); first | done | rfl) ?_
       with_reducible refine (strconv_Itoa.calls e dg _ HE.out).mono ?_
       rintro e' w' ⟨rfl, ⟨nd, rfl⟩⟩
       refine ⟨_, rfl, ?_⟩
       have n0_ := Aside0.mk (Kd.R_drewN HO.out nd)
       have n1_ := Aside0.mk (blk_drewN BK.out nd)
       have n2_ := Aside0.mk (pw_below_drewN HB.out nd)
       clear HO BK HB
       have HO := n0_
       have BK := n1_
       have HB := n2_
       clear n0_ n1_ n2_
       refine hK.out _ _ hHeld (fun hHeld => ?_)
       clear hK K
       refine norm_ (a' := ?_) ?_ ?_
       rotate_left
       · show Act.put _ (some 23) _ = _
         simp only [Act.put, List.setIfInBounds_toArray, List.set_cons_zero, List.set_cons_succ, i64_w, i32_w]
         rfl
       refine pure_ (i := 5) (N := some 25) (v := ?_) (a' := ?_) #[true, true, true, true, true, true, false] rfl rfl (any_of HT_.out (by kernel_rfl)) (fun _ _ _ h => h) (Or.inl ⟨by rfl, ?_⟩) ?_ ?_
       rotate_left
       · intro w'
         go_simp
         with_reducible rfl
       rotate_left
       · simp only [Act.put, List.setIfInBounds_toArray, List.set_cons_zero, List.set_cons_succ, i64_w, i32_w]
         rfl
       have hcell2 := blk_cell BK.out 0
       have hfz2 := blk_frozen BK.out 0
       refine last_ (i := 6) (N := none) #[true, true, true, true, true, true, true] rfl rfl (one_of HT_.out (by kernel_rfl)) (by decide) (fun K hK => ?_)
       refine skip_ (w1 := ?_) (by rfl) rfl ?_ ?_
       rotate_left
       · go_simp
         rfl
       refine hK.out _ _ ?_
       clear hK K
       refine done_ (done_of HT_.out (by kernel_rfl)) ?_
       try go_wp2
       go_roundg (gk - 1)
       case measure => have := HI.out; have := HD.out; omega
       case rel =>
        exact ⟨i + 1, q, dg ++ tk, by first | rfl | (simp [*]; done), impl_solutions.succ_ i (by have := HD.out; omega), ⟨by have := HI.out; have := HD.out; omega⟩, HQ0, HDS, HT2, ⟨blk_put BK.out 0 _ rfl⟩, ⟨Kd.R_far HO.out (fun k hk => hk) _⟩, ⟨below_set HB.out HG.out⟩⟩
     have d1 : decide ((i : Int) < 4) = false := decide_eq_false (by omega)
     have d2 : decide (i < 4) = false := decide_eq_false d
     have hi : tk = T := by
      have h := HT.out
      rw [show 4 - i = 0 by have := HI.out; omega] at h
      exact h
     subst hi
     have hcell := blk_cell BK.out 0
     have HCL := Aside0.mk hcell
     have HP : Aside0 (∀ (x : S26) (t : Bool) (W : World), impl_solutions.bad k tk x = some t → Below wr.heap.size wr W → Calls Tryd.prog 95 (#[.agg #[.int .i64 x.f0, .int .i64 x.f1, .int .i64 x.f2]] ++ #[.pointer (some ⟨g, 0, none⟩)]) W fun e W' => e = .returned (.bool t) ∧ Below W.heap.size W W') := ⟨fun x t W hx hb => impl_solutions_1.calls k x tk g t W ((hb.cell (World.block_lt_of_cell? wr _ HCL.out)).trans HCL.out) hx⟩
     have HRL := Aside0.mk (Kd.C_below HR0.out HB.out)
     cases b with
     | true =>
      go_wp2_with (first | (go_at_call 92; (with_reducible refine (slices_ContainsFunc_clue (impl_solutions.bad k tk) 95 _ #[.pointer (some ⟨g, 0, none⟩)] A0 c0 l0 true _ HRL.out HC0.out Tryd.func95 (by kernel_rfl) rfl HP.out HQ.out).mono ?_); rintro e w1 ⟨rfl, hb⟩; have HB2 := Aside0.mk (below_step HB.out hb); have HO2 := Aside0.mk (Kd.R_mono (Kd.R_below HO.out hb) (ok' := fun _ => True) (fun _ _ => trivial)); clear hb))
      go_roundg (nq - 1)
      case measure => have := HN.out; have := HC.out; omega
      case rel => exact ⟨n + 1, out, impl_solutions.succ_ n (by have := HC.out; omega), ⟨by have := HN.out; have := HC.out; omega⟩, ⟨by have := HL.out; omega⟩, HA2, HO2, HB2⟩
     | false =>
      go_wp2_with (first | (go_at_call 92; (with_reducible refine (slices_ContainsFunc_clue (impl_solutions.bad k tk) 95 _ #[.pointer (some ⟨g, 0, none⟩)] A0 c0 l0 false _ HRL.out HC0.out Tryd.func95 (by kernel_rfl) rfl HP.out HQ.out).mono ?_); rintro e w1 ⟨rfl, hb⟩; have HB2 := Aside0.mk (below_step HB.out hb); have hcell2 := (hb.cell (World.block_lt_of_cell? wr _ HCL.out)).trans HCL.out; have HO2 := Aside0.mk (Kd.R_mono (Kd.R_below HO.out hb) (ok' := fun _ => True) (fun _ _ => trivial)); clear hb) | ((with_reducible refine gate_builtin (b := .append) (xs := #[.tmp 34, .tmp 36]) rfl ?_); at_builtin; refine Kd.R_append Kd.string (w0 := w) w.heap.size rfl (.tmp 34) (.tmp 36) 53 9 (.string ByteArray.empty) 16 rfl Tryd.underlying53 info9 rfl (by decide) (by omega) u3 out tk [.string tk] (fun _ => True) (fun _ => False) rfl rfl ?aP (fun _ hk => hk.elim) ?aF ?aO ?aB ?aS ?aL ?_; (case aP => exact rfl); (case aF => exact fun _ _ => trivial); (case aO => exact HO2.out); (case aB => exact HB2.out); (case aS => exact HB2.out.size); (case aL => have := HL.out; have := HC.out; omega); intro v1 w4 ho hb hg hat; have HO3 := Aside0.mk ho; have HB3 := Aside0.mk hb; clear ho hb hg hat HB2 HO2))
      go_roundg (nq - 1)
      case measure => have := HN.out; have := HC.out; omega
      case rel => exact ⟨n + 1, out ++ [tk], impl_solutions.succ_ n (by have := HC.out; omega), ⟨by have := HN.out; have := HC.out; omega⟩, ⟨by have := HL.out; simp; omega⟩, HA2, HO3, HB3⟩
  have c1 : decide ((n : Int) < 1296) = false := decide_eq_false (by omega)
  have c2 : decide (n < 1296) = false := decide_eq_false c
  have hr : out = r := by
   have h := HA.out
   rw [show 1296 - n = 0 by omega] at h
   exact Option.some.inj h
  subst hr
  go_wp2
  go_ret
  exact ⟨_, rfl, HO.out, HB.out⟩

/-! ### impl_Solutions: function 41 -/
def impl_Solutions.f (k : Nat) (l0_0 : List (S26)) : Option (List ByteArray × Bool) := (impl_IsPuzzle.f k l0_0).bind fun t190 => (if t190 = true then ((impl_solutions.f k l0_0).bind fun t191 => (some (t191, true))) else (some (([] : List ByteArray), false)))
theorem impl_Solutions.mono : ∀ a0 k, LeO (impl_Solutions.f k a0) (impl_Solutions.f (k + 1) a0) := by
 intro a0 k
 unfold impl_Solutions.f
 repeat' first
  | (with_reducible exact impl_IsPuzzle.mono _ _)
  | (with_reducible exact impl_solutions.mono _ _)
  | (with_reducible exact LeO.refl _)
  | (with_reducible exact LeO.none _)
  | (with_reducible refine LeO.ite ?_ ?_)
  | (with_reducible refine LeO.bind ?_ (fun _ => ?_))
  | exact impl_IsPuzzle.mono _ _
  | exact impl_solutions.mono _ _
  | exact LeO.none _
  | refine LeO.ite ?_ ?_
  | refine LeO.bind ?_ (fun _ => ?_)
set_option maxHeartbeats 8000000 in
set_option maxRecDepth 100000 in
theorem impl_Solutions.calls (k : Nat) (A0_0 : Option Addr) (c0_0 : Nat) (l0_0 : List (S26)) (r1 : List ByteArray) (r2 : Bool) (w : World) (hr0_0 : Kd.C k26 w A0_0 l0_0.length l0_0) (hc0_0 : l0_0.length ≤ c0_0) (h : impl_Solutions.f k l0_0 = some (r1, r2)) :
 Calls Tryd.prog 41 #[.agg #[.slice A0_0 l0_0.length c0_0]] w fun e w' => ∃ v0_ : Value, e = .returned (.tuple #[v0_, .bool r2]) ∧ Kd.R Kd.string 9 w' w.heap.size (fun _ => True) v0_ r1 ∧ Below w.heap.size w w' := by
 have hu37 := Tryd.underlying37
 have HR0_0 := Aside0.mk hr0_0
 have HC0_0 := Aside0.mk hc0_0
 clear hr0_0 hc0_0
 have HB := Aside0.mk (Below.refl w.heap.size w)
 have H : ((impl_IsPuzzle.f k l0_0).bind fun t190 => (if t190 = true then ((impl_solutions.f k l0_0).bind fun t191 => (some (t191, true))) else (some (([] : List ByteArray), false)))) = some (r1, r2) := h
 clear h
 replace H := Option.bind_eq_some_iff.mp H
 obtain ⟨t190, A20, H⟩ := H
 have A2 := Aside0.mk A20
 clear A20
 by_cases c3 : t190 = true
 · subst c3
   have H1 : ((impl_solutions.f k l0_0).bind fun t191 => (some (t191, true))) = some (r1, r2) := by rw [if_pos rfl] at H; exact H
   clear H
   have H := H1
   clear H1
   replace H := Option.bind_eq_some_iff.mp H
   obtain ⟨t191, A40, H⟩ := H
   have A4 := Aside0.mk A40
   clear A40
   simp only [Option.some.injEq, Prod.mk.injEq] at H
   obtain ⟨rfl, rfl⟩ := H
   go_enter Tryd.func41, Tryd.ntmps41
   go_wp2_with (first | ((with_reducible refine gate_dst (N := 1) rfl ?_); refine box_event ?hg (N := 1) ?hd (cs := #[.slice A0_0 l0_0.length c0_0]) (t := 37) ?hr ?_; (case hd => rfl); (case hg => rfl); (case hr => first | (go_simp; done) | (go_simp; rfl)); intro gb189 hg w5 hbox hb; have n0_ := Aside0.mk (below_step z7_0_ hb); have n1_ := Aside0.mk (hbox); have n2_ := Aside0.mk ((by rw [hg]; exact (below_size z7_0_) : w.heap.size ≤ gb189)); have n3_ := Aside0.mk ((by rw [hg]; exact (below_size z7_0_) : w.heap.size ≤ gb189)); clear HB; have HB := n0_; have BK189 := n1_; have GW189 := n2_; have GE189 := n3_; clear n0_ n1_ n2_ n3_; clear hb hbox hg; have hcz6_0 : w5.cell? ⟨gb189, 0, none⟩ = some (.slice A0_0 l0_0.length c0_0) := (blk_cell BK189.out 0).trans rfl; have hfz6_0 := blk_frozen BK189.out 0) | ((with_reducible refine gate_callee (f := 71) rfl ?_); refine goesL_ (some 5) rfl rfl Tryd.func71 (by kernel_rfl) rfl #[.agg #[.slice A0_0 l0_0.length c0_0]] rfl z7_1_ ?_; (with_reducible refine (impl_IsPuzzle.calls k _ _ l0_0 true _ ?side1 ?side2 A2.out).mono ?_); (case side1 => repeat (first | exact (Kd.C_below HR0_0.out HB.out) | (with_reducible refine Kd.C_alloc ?_ _) | (with_reducible refine Kd.C_drewN ?_ _) | (with_reducible refine Kd.C_drew ?_))); (case side2 => exact HC0_0.out); rintro e w7 ⟨rfl, hb⟩; refine ⟨_, rfl, ?_⟩; have n0_ := Aside0.mk (blk_below (g := gb189) (o := .cells #[.slice A0_0 l0_0.length c0_0] 37 (0, 0)) z7_4_ hb); have n1_ := Aside0.mk (below_step z7_2_ hb); clear BK189; clear HB; have BK189 := n0_; have HB := n1_; clear n0_ n1_; (try clear hb); (try clear hb2); (try clear hk); (try clear hi); have hcz8_0 : w7.cell? ⟨gb189, 0, none⟩ = some (.slice A0_0 l0_0.length c0_0) := (blk_cell BK189.out 0).trans rfl; have hfz8_0 := blk_frozen BK189.out 0) | ((with_reducible refine gate_callee (f := 72) rfl ?_); refine goesL_ (some 9) rfl rfl Tryd.func72 (by kernel_rfl) rfl #[.slice A0_0 l0_0.length c0_0] rfl z7_1_ ?_; (with_reducible refine (impl_solutions.calls k _ _ l0_0 t191 _ ?side1 ?side2 A4.out).mono ?_); (case side1 => repeat (first | exact (Kd.C_below HR0_0.out HB.out) | (with_reducible refine Kd.C_alloc ?_ _) | (with_reducible refine Kd.C_drewN ?_ _) | (with_reducible refine Kd.C_drew ?_))); (case side2 => exact HC0_0.out); rintro e w9 ⟨v192, rfl, ho0, hb⟩; refine ⟨_, rfl, ?_⟩; have n0_ := Aside0.mk (Kd.R_lower ho0 (below_size z7_2_)); have n1_ := Aside0.mk (blk_below (g := gb189) (o := .cells #[.slice A0_0 l0_0.length c0_0] 37 (0, 0)) z7_4_ hb); have n2_ := Aside0.mk (below_step z7_2_ hb); clear BK189; clear HB; have HO193 := n0_; have BK189 := n1_; have HB := n2_; clear n0_ n1_ n2_; (try clear hb); (try clear hb2); (try clear hk); (try clear hi); (try clear ho0)))
   go_ret2
   exact ⟨_, by first | rfl | (simp [errW_none, errW_some] <;> rfl) | (simp [*, errW_none, errW_some] <;> rfl), by (with_reducible repeat (first | apply Kd.R_alloc | apply Kd.R_drewN | apply Kd.R_drew)); exact HO193.out, by repeat (first | (with_reducible first | exact HB.out | apply below_alloc | apply pw_below_drewN | apply below_drew1 | refine below_set ?_ GE189.out) | exact HB.out)⟩
 replace c3 := Bool.eq_false_iff.mpr c3
 subst c3
 have H1 : (some (([] : List ByteArray), false)) = some (r1, r2) := by rw [if_neg (show ¬ (false = true) by decide)] at H; exact H
 clear H
 have H := H1
 clear H1
 simp only [Option.some.injEq, Prod.mk.injEq] at H
 obtain ⟨rfl, rfl⟩ := H
 go_enter Tryd.func41, Tryd.ntmps41
 go_wp2_with (first | ((with_reducible refine gate_dst (N := 1) rfl ?_); refine box_event ?hg (N := 1) ?hd (cs := #[.slice A0_0 l0_0.length c0_0]) (t := 37) ?hr ?_; (case hd => rfl); (case hg => rfl); (case hr => first | (go_simp; done) | (go_simp; rfl)); intro gb189 hg w10 hbox hb; have n0_ := Aside0.mk (below_step z7_0_ hb); have n1_ := Aside0.mk (hbox); have n2_ := Aside0.mk ((by rw [hg]; exact (below_size z7_0_) : w.heap.size ≤ gb189)); have n3_ := Aside0.mk ((by rw [hg]; exact (below_size z7_0_) : w.heap.size ≤ gb189)); clear HB; have HB := n0_; have BK189 := n1_; have GW189 := n2_; have GE189 := n3_; clear n0_ n1_ n2_ n3_; clear hb hbox hg; have hcz11_0 : w10.cell? ⟨gb189, 0, none⟩ = some (.slice A0_0 l0_0.length c0_0) := (blk_cell BK189.out 0).trans rfl; have hfz11_0 := blk_frozen BK189.out 0) | ((with_reducible refine gate_callee (f := 71) rfl ?_); refine goesL_ (some 5) rfl rfl Tryd.func71 (by kernel_rfl) rfl #[.agg #[.slice A0_0 l0_0.length c0_0]] rfl z7_1_ ?_; (with_reducible refine (impl_IsPuzzle.calls k _ _ l0_0 false _ ?side1 ?side2 A2.out).mono ?_); (case side1 => repeat (first | exact (Kd.C_below HR0_0.out HB.out) | (with_reducible refine Kd.C_alloc ?_ _) | (with_reducible refine Kd.C_drewN ?_ _) | (with_reducible refine Kd.C_drew ?_))); (case side2 => exact HC0_0.out); rintro e w12 ⟨rfl, hb⟩; refine ⟨_, rfl, ?_⟩; have n0_ := Aside0.mk (blk_below (g := gb189) (o := .cells #[.slice A0_0 l0_0.length c0_0] 37 (0, 0)) z7_4_ hb); have n1_ := Aside0.mk (below_step z7_2_ hb); clear BK189; clear HB; have BK189 := n0_; have HB := n1_; clear n0_ n1_; (try clear hb); (try clear hb2); (try clear hk); (try clear hi)))
 go_ret2
 exact ⟨_, by first | rfl | (simp [errW_none, errW_some] <;> rfl) | (simp [*, errW_none, errW_some] <;> rfl), by first | exact Kd.R_nil _ _ _ _ _ | exact Kd.N_nil _ _ _ _ _ | exact Kd.V_nil _ _ _ _ _ | exact Kd.Q_nil _ _ _ _ _ | exact Kd.S_nil _ _ _ _ _, by repeat (first | (with_reducible first | exact HB.out | apply below_alloc | apply pw_below_drewN | apply below_drew1 | refine below_set ?_ GE189.out) | exact HB.out)⟩

end Go.Proofs.YtgpakeadepcgnaaDoor.PFnExactSureDigits

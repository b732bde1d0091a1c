-- Laid by this session's program gprint.py over the kit's print.
import Derived.Test.YtebchgfjfobbbaaGreatDoorSq
import Derived.Test.YtebchgfjfobbbaaGreatDoorZip
import Derived.Test.YtebchgfjfobbbaaGreatDoorPFnTicketsHiddenx6
namespace Go.Proofs.YtebchgfjfobbbaaGreatDoor.PFnTicketsHidden
open Go.RowKit Go.Proofs.YtebchgfjfobbbaaGreatDoorW.PrintWords Go.Proofs.YtebchgfjfobbbaaGreatDoorW.PrintLast Go.Proofs.YtebchgfjfobbbaaGreatDoorW.PrintMore
attribute [local go_sem] max2_int min2_int max_two min_two max_three min_three max_four min_four   -- for this text's walks alone
set_option linter.unusedVariables false
set_option linter.unusedSimpArgs false
theorem zq11_0_ {p : Prop} (h : p := by repeat (first | (with_reducible first | exact HI0.out | apply IsS74.alloc | apply IsS74.drewN | apply IsS74.drew | apply IsS74.set_1 | apply IsS74.set_2) | exact HI0.out)) : p := h
theorem zc11_0_ {p : Prop} (h : p := by repeat (first | (with_reducible first | exact HI0.out | apply IsS74.alloc | apply IsS74.drewN | apply IsS74.drew | apply IsS74.set_1 | apply IsS74.set_2 | refine IsS74.far ?_ NB0_266.out _ | refine IsS74.far ?_ NB0_279.out _) | exact HI0.out)) : p := h
theorem zc11_1_ {p : Prop} (h : p := by repeat (first | (with_reducible first | exact HI0.out | apply IsS74.alloc | apply IsS74.drewN | apply IsS74.drew | apply IsS74.set_1 | apply IsS74.set_2 | refine IsS74.far ?_ NB0_313.out _ | refine IsS74.far ?_ NB0_319.out _) | exact HI0.out)) : p := h
theorem zc11_2_ {p : Prop} (h : p := by repeat (first | (with_reducible first | exact HB.out | apply below_alloc | apply pw_below_drewN | apply below_drew1 | refine below_set ?_ (IsS74.ge HI0.out) | refine below_set ?_ GE266.out | refine below_set ?_ GE279.out) | exact HB.out)) : p := h
theorem zc11_3_ {p : Prop} (h : p := by repeat (first | (with_reducible first | exact HB.out | apply below_alloc | apply pw_below_drewN | apply below_drew1 | refine below_set ?_ (IsS74.ge HI0.out) | refine below_set ?_ GE313.out | refine below_set ?_ GE319.out) | exact HB.out)) : p := h
theorem zc11_4_ {p : Prop} (h : p := by repeat (first | (with_reducible first | exact HI0.out | apply IsS74.alloc | apply IsS74.drewN | apply IsS74.drew | apply IsS74.set_1 | apply IsS74.set_2 | refine IsS74.far ?_ NB0_266.out _) | exact HI0.out)) : p := h
theorem zc11_5_ {p : Prop} (h : p := by repeat (first | (with_reducible first | exact HI0.out | apply IsS74.alloc | apply IsS74.drewN | apply IsS74.drew | apply IsS74.set_1 | apply IsS74.set_2 | refine IsS74.far ?_ NB0_298.out _) | exact HI0.out)) : p := h
theorem zc11_6_ {p : Prop} (h : p := by repeat (first | (with_reducible first | exact HB.out | apply below_alloc | apply pw_below_drewN | apply below_drew1 | refine below_set ?_ (IsS74.ge HI0.out) | refine below_set ?_ GE266.out) | exact HB.out)) : p := h
theorem zc11_7_ {p : Prop} (h : p := by repeat (first | (with_reducible first | exact HB.out | apply below_alloc | apply pw_below_drewN | apply below_drew1 | refine below_set ?_ (IsS74.ge HI0.out) | refine below_set ?_ GE298.out) | exact HB.out)) : p := h
theorem z7_2_ {p : Prop} (h : p := by repeat (first | (with_reducible first | exact HB.out | apply below_alloc | apply pw_below_drewN | apply below_drew1 | refine below_set ?_ GE213.out) | exact HB.out)) : p := h
theorem z7_3_ {p : Prop} (h : p := by (try simp only [List.map_toArray, List.map_cons, List.map_nil]); first | done | rfl | (simp only [List.length_drop, List.length_take]; rfl)) : p := h
theorem z7_4_ {p : Prop} (h : p := by exact b_ BK213.out) : p := h

/-! ### spec_l1Find: function 126 -/
def spec_l1Find.l0 : Nat → ByteArray → Int → Int → Option (Int)
 | 0, _, _, _ => none
 | k + 1, x0, x1, x5 => if x5 < (x0.size : Int) then (if 0 ≤ x5 then (if (bt x0 x5) = x1 then (some x5) else (spec_l1Find.l0 k x0 x1 (wrap64 (x5 + 1)))) else (none)) else (some (-1))
def spec_l1Find.f (k : Nat) (a0 : ByteArray) (a1 : Int) : Option (Int) := spec_l1Find.l0 k a0 a1 0
theorem spec_l1Find.mono_l : ∀ k, (∀ y0 y1 y2, LeO (spec_l1Find.l0 k y0 y1 y2) (spec_l1Find.l0 (k + 1) y0 y1 y2))
 | 0 => fun _ _ _ r h => by simp [spec_l1Find.l0] at h
 | k + 1 => by
  have ih0 := spec_l1Find.mono_l k
  intro y0 y1 y2
  unfold spec_l1Find.l0
  repeat' first
  | (with_reducible exact ih0 _ _ _)
  | (with_reducible exact LeO.refl _)
  | (with_reducible exact LeO.none _)
  | (with_reducible refine LeO.ite ?_ ?_)
  | (with_reducible refine LeO.bind ?_ (fun _ => ?_))
  | exact LeO.none _
  | refine LeO.ite ?_ ?_
  | refine LeO.bind ?_ (fun _ => ?_)
theorem spec_l1Find.mono : ∀ a0 a1 k, LeO (spec_l1Find.f k a0 a1) (spec_l1Find.f (k + 1) a0 a1) := by
 intro a0 a1 k
 have ih0 := spec_l1Find.mono_l k
 unfold spec_l1Find.f
 repeat' first
  | (with_reducible exact ih0 _ _ _)
  | (with_reducible exact LeO.refl _)
  | (with_reducible exact LeO.none _)
  | (with_reducible refine LeO.ite ?_ ?_)
  | (with_reducible refine LeO.bind ?_ (fun _ => ?_))
  | exact LeO.none _
  | refine LeO.ite ?_ ?_
  | refine LeO.bind ?_ (fun _ => ?_)
set_option maxHeartbeats 8000000 in
set_option maxRecDepth 100000 in
theorem spec_l1Find.calls (k : Nat) (a0 : ByteArray) (a1 : Int) (r : Int) (w : World) (h : spec_l1Find.f k a0 a1 = some r) :
 Calls Tryz.prog 126 #[.string a0, .int .u8 a1] w fun e w' => e = .returned (.int .i64 r) ∧ Drawn0 w w' := by
 unfold spec_l1Find.f at h
 have H := h
 clear h
 have H' := Aside0.mk H
 clear H
 go_enter Tryz.func126, Tryz.ntmps126
 go_wp2
 go_loopg [5] k (fun kq v5 w' => ∃ (x5_1 : Int), v5 = .int .i64 x5_1 ∧ Aside0 (spec_l1Find.l0 kq a0 a1 x5_1 = some r) ∧ Aside0 (kq ≤ k) ∧ Drawn0 w w')
 case atStart => exact ⟨(0), zV_, H', ⟨Nat.le_refl _⟩, by repeat (first | exact Drawn0.refl _ | apply Drawn0.step)⟩
 case round =>
  clear H'
  obtain ⟨x5_1, rfl, HA, HK1, ⟨m1, rfl⟩⟩ := hrel
  cases gk with
  | zero => exact absurd HA.out (by simp [spec_l1Find.l0])
  | succ k1 =>
   have H := HA.out
   clear HA
   simp only [spec_l1Find.l0] at H
   by_cases c3 : x5_1 < (a0.size : Int)
   rotate_left
   · rw [if_neg c3] at H
     have c3b0 := decide_eq_false c3
     clear c3
     obtain rfl := Option.some.inj H
     go_wp2
     go_ret
     exact ⟨by first | rfl | (simp; done) | (simp [*]; done), by repeat (first | exact Drawn0.refl _ | apply Drawn0.step)⟩
   rw [if_pos c3] at H
   have c3b0 := decide_eq_true c3
   clear c3
   replace H := gd_ H; obtain ⟨c4, H⟩ := H
   have c4b0 : decide (0 ≤ x5_1) = true := decide_eq_true c4
   clear c4
   by_cases c6 : (bt a0 x5_1) = a1
   · obtain ⟨H, c6b0, c6b1⟩ := ep_ c6 H
     clear c6
     obtain rfl := Option.some.inj H
     have p5 : 0 ≤ (x5_1 : Int) := of_decide_eq_true zS_
     have q5 : x5_1 < (a0.size : Int) := of_decide_eq_true zS_
     have hx5 := bt_at a0 x5_1
     replace p5 := eq_true p5
     replace q5 := eq_true q5
     go_wp2
     go_ret
     exact ⟨by first | rfl | (simp; done) | (simp [*]; done), by repeat (first | exact Drawn0.refl _ | apply Drawn0.step)⟩
   obtain ⟨H, c6b0, c6b1⟩ := en_ c6 H
   have H' := Aside0.mk H
   clear H
   have p5 : 0 ≤ (x5_1 : Int) := of_decide_eq_true zS_
   have q5 : x5_1 < (a0.size : Int) := of_decide_eq_true zS_
   have hx5 := bt_at a0 x5_1
   replace p5 := eq_true p5
   replace q5 := eq_true q5
   go_wp2
   go_roundg k1
   case measure => have := HK1.out; omega
   case rel => exact ⟨(wrap64 (x5_1 + 1)), zV_, H', ⟨by have := HK1.out; omega⟩, by repeat (first | exact Drawn0.refl _ | apply Drawn0.step)⟩

/-! ### spec_pzValue: function 104 -/
def spec_pzValue.l0 : Nat → ByteArray → Int → Int → Option (Int)
 | 0, _, _, _ => none
 | k + 1, x2, x7, x8 => if x8 < 4 then (if 0 ≤ x8 then (if x8 ≤ (x2.size : Int) then (if x8 < (x2.size : Int) then ((spec_l1Find.f k (x2.extract 0 (x8 : Int).toNat) (bt x2 x8)).bind fun t212 => (if t212 < 0 then (spec_pzValue.l0 k x2 (wrap64 (x7 + 1)) (wrap64 (x8 + 1))) else (spec_pzValue.l0 k x2 x7 (wrap64 (x8 + 1))))) else (none)) else (none)) else (none)) else (some x7)
def spec_pzValue.f (k : Nat) (a0 : Int) (a1 : Int) (a2 : ByteArray) : Option (Int) := if a0 = 0 then (if 0 ≤ (wrap64 (2 * a1)) then (if (wrap64 (2 * a1)) < (a2.size : Int) then (if 0 ≤ (wrap64 ((wrap64 (2 * a1)) + 1)) then (if (wrap64 ((wrap64 (2 * a1)) + 1)) < (a2.size : Int) then (some ((((bt a2 (wrap64 (2 * a1))) - 48) % 256) + (((bt a2 (wrap64 ((wrap64 (2 * a1)) + 1))) - 48) % 256))) else (none)) else (none)) else (none)) else (none)) else (if a0 = 1 then (if 0 ≤ a1 then (if a1 < (a2.size : Int) then (some (((bt a2 a1) - 48) % 256)) else (none)) else (none)) else (if a0 = 2 then ((spec_tkLucky.f k a2).bind fun t211 => (if t211 = true then (some 1) else (some 0))) else (if a0 = 3 then (if 0 ≤ a1 then (if a1 < (a2.size : Int) then (if 0 ≤ (wrap64 (a1 + 1)) then (if (wrap64 (a1 + 1)) < (a2.size : Int) then (if (bt a2 a1) < (bt a2 (wrap64 (a1 + 1))) then (some 1) else (some 0)) else (none)) else (none)) else (none)) else (none)) else (spec_pzValue.l0 k a2 0 0))))
theorem spec_pzValue.mono_l : ∀ k, (∀ y0 y1 y2, LeO (spec_pzValue.l0 k y0 y1 y2) (spec_pzValue.l0 (k + 1) y0 y1 y2))
 | 0 => fun _ _ _ r h => by simp [spec_pzValue.l0] at h
 | k + 1 => by
  have ih0 := spec_pzValue.mono_l k
  intro y0 y1 y2
  unfold spec_pzValue.l0
  repeat' first
  | (with_reducible exact ih0 _ _ _)
  | (with_reducible exact spec_l1Find.mono _ _ _)
  | (with_reducible exact spec_tkLucky.mono _ _)
  | (with_reducible exact LeO.refl _)
  | (with_reducible exact LeO.none _)
  | (with_reducible refine LeO.ite ?_ ?_)
  | (with_reducible refine LeO.bind ?_ (fun _ => ?_))
  | exact LeO.none _
  | refine LeO.ite ?_ ?_
  | refine LeO.bind ?_ (fun _ => ?_)
theorem spec_pzValue.mono : ∀ a0 a1 a2 k, LeO (spec_pzValue.f k a0 a1 a2) (spec_pzValue.f (k + 1) a0 a1 a2) := by
 intro a0 a1 a2 k
 have ih0 := spec_pzValue.mono_l k
 unfold spec_pzValue.f
 repeat' first
  | (with_reducible exact ih0 _ _ _)
  | (with_reducible exact spec_l1Find.mono _ _ _)
  | (with_reducible exact spec_tkLucky.mono _ _)
  | (with_reducible exact LeO.refl _)
  | (with_reducible exact LeO.none _)
  | (with_reducible refine LeO.ite ?_ ?_)
  | (with_reducible refine LeO.bind ?_ (fun _ => ?_))
  | exact LeO.none _
  | refine LeO.ite ?_ ?_
  | refine LeO.bind ?_ (fun _ => ?_)
set_option maxHeartbeats 8000000 in
set_option maxRecDepth 100000 in
theorem spec_pzValue.calls (k : Nat) (a0 : Int) (a1 : Int) (a2 : ByteArray) (r : Int) (w : World) (h : spec_pzValue.f k a0 a1 a2 = some r) :
 Calls Tryz.prog 104 #[.int .i64 a0, .int .i64 a1, .string a2] w fun e w' => e = .returned (.int .i64 r) ∧ Drawn0 w w' := by
 unfold spec_pzValue.f at h
 have H := h
 clear h
 by_cases c4 : a0 = 0
 · obtain ⟨H, c4b0, c4b1⟩ := ep_ c4 H
   clear c4
   obtain ⟨ji5, hji5⟩ : ∃ j_ : Int, (wrap64 (2 * a1)) = j_ := ⟨_, rfl⟩
   replace H : (if 0 ≤ (ji5) then (if (ji5) < (a2.size : Int) then (if 0 ≤ (wrap64 ((ji5) + 1)) then (if (wrap64 ((ji5) + 1)) < (a2.size : Int) then (some ((((bt a2 (ji5)) - 48) % 256) + (((bt a2 (wrap64 ((ji5) + 1))) - 48) % 256))) else (none)) else (none)) else (none)) else (none)) = some r := by first | (rw [hji5] at H; exact H) | (simp only [hji5] at H ⊢; exact H)
   have hji5w : (IntKind.i64.wrap (2 * a1)) = ji5 := (i64_w _).trans hji5
   replace H := gd_ H; obtain ⟨c6, H⟩ := H
   have c6b0 : decide (0 ≤ (ji5)) = true := decide_eq_true c6
   clear c6
   replace H := gd_ H; obtain ⟨c7, H⟩ := H
   have c7b0 : decide ((ji5) < (a2.size : Int)) = true := decide_eq_true c7
   clear c7
   obtain ⟨ji9, hji9⟩ : ∃ j_ : Int, (wrap64 ((ji5) + 1)) = j_ := ⟨_, rfl⟩
   replace H : (if 0 ≤ (ji9) then (if (ji9) < (a2.size : Int) then (some ((((bt a2 (ji5)) - 48) % 256) + (((bt a2 (ji9)) - 48) % 256))) else (none)) else (none)) = some r := by first | (rw [hji9] at H; exact H) | (simp only [hji9] at H ⊢; exact H)
   have hji9w : (IntKind.i64.wrap ((ji5) + 1)) = ji9 := (i64_w _).trans hji9
   replace H := gd_ H; obtain ⟨c10, H⟩ := H
   have c10b0 : decide (0 ≤ (ji9)) = true := decide_eq_true c10
   clear c10
   replace H := gd_ H; obtain ⟨c11, H⟩ := H
   have c11b0 : decide ((ji9) < (a2.size : Int)) = true := decide_eq_true c11
   clear c11
   obtain rfl := Option.some.inj H
   have p8 : 0 ≤ ((ji5) : Int) := of_decide_eq_true zS_
   have q8 : (ji5) < (a2.size : Int) := of_decide_eq_true zS_
   have hx8 := bt_at a2 (ji5)
   replace p8 := eq_true p8
   replace q8 := eq_true q8
   have p12 : 0 ≤ ((ji9) : Int) := of_decide_eq_true zS_
   have q12 : (ji9) < (a2.size : Int) := of_decide_eq_true zS_
   have hx12 := bt_at a2 (ji9)
   replace p12 := eq_true p12
   replace q12 := eq_true q12
   go_enter Tryz.func104, Tryz.ntmps104
   go_wp2
   repeat (go_quiet (fail); try go_wp2)
   go_ret
   exact ⟨by first | rfl | (simp; done) | (simp only [← hji5, ← hji9] <;> (first | rfl | simp)) | (simp [*]; done), by repeat (first | exact Drawn0.refl _ | apply Drawn0.step)⟩
 obtain ⟨H, c4b0, c4b1⟩ := en_ c4 H
 by_cases c13 : a0 = 1
 · obtain ⟨H, c13b0, c13b1⟩ := ep_ c13 H
   clear c13
   replace H := gd_ H; obtain ⟨c14, H⟩ := H
   have c14b0 : decide (0 ≤ a1) = true := decide_eq_true c14
   clear c14
   replace H := gd_ H; obtain ⟨c15, H⟩ := H
   have c15b0 : decide (a1 < (a2.size : Int)) = true := decide_eq_true c15
   clear c15
   obtain rfl := Option.some.inj H
   have p16 : 0 ≤ (a1 : Int) := of_decide_eq_true zS_
   have q16 : a1 < (a2.size : Int) := of_decide_eq_true zS_
   have hx16 := bt_at a2 a1
   replace p16 := eq_true p16
   replace q16 := eq_true q16
   go_enter Tryz.func104, Tryz.ntmps104
   go_wp2
   repeat (go_quiet (fail); try go_wp2)
   go_ret
   exact ⟨by first | rfl | (simp; done) | (simp [*]; done), by repeat (first | exact Drawn0.refl _ | apply Drawn0.step)⟩
 obtain ⟨H, c13b0, c13b1⟩ := en_ c13 H
 by_cases c17 : a0 = 2
 · obtain ⟨H, c17b0, c17b1⟩ := ep_ c17 H
   clear c17
   replace H := bd_ H; obtain ⟨t211, A18, H⟩ := H
   by_cases c19 : t211 = true
   · subst c19
     rw [if_pos rfl] at H
     obtain rfl := Option.some.inj H
     go_enter Tryz.func104, Tryz.ntmps104
     go_wp2_with (first | (go_at_call 125; (with_reducible refine (spec_tkLucky.calls k a2 true _ A18.out).mono ?_); rintro e w' ⟨rfl, ⟨nd, rfl⟩⟩; (try first | exact ⟨rfl, _, World.drewN_drewN _ _ _⟩ | exact ⟨rfl, _, Eq.trans (World.drewN_drewN _ _ _) (congrArg (World.drewN _) (Nat.add_assoc _ _ _))⟩)))
     repeat (go_quiet (fail); try go_wp2_with (first | (go_at_call 125; (with_reducible refine (spec_tkLucky.calls k a2 true _ A18.out).mono ?_); rintro e w' ⟨rfl, ⟨nd, rfl⟩⟩; (try first | exact ⟨rfl, _, World.drewN_drewN _ _ _⟩ | exact ⟨rfl, _, Eq.trans (World.drewN_drewN _ _ _) (congrArg (World.drewN _) (Nat.add_assoc _ _ _))⟩))))
     go_ret
     exact ⟨by first | rfl | (simp; done) | (simp [*]; done), by repeat (first | exact Drawn0.refl _ | apply Drawn0.step)⟩
   replace H := bf_ c19 H; obtain ⟨rfl, H⟩ := H
   obtain rfl := Option.some.inj H
   go_enter Tryz.func104, Tryz.ntmps104
   go_wp2_with (first | (go_at_call 125; (with_reducible refine (spec_tkLucky.calls k a2 false _ A18.out).mono ?_); rintro e w' ⟨rfl, ⟨nd, rfl⟩⟩; (try first | exact ⟨rfl, _, World.drewN_drewN _ _ _⟩ | exact ⟨rfl, _, Eq.trans (World.drewN_drewN _ _ _) (congrArg (World.drewN _) (Nat.add_assoc _ _ _))⟩)))
   repeat (go_quiet (fail); try go_wp2_with (first | (go_at_call 125; (with_reducible refine (spec_tkLucky.calls k a2 false _ A18.out).mono ?_); rintro e w' ⟨rfl, ⟨nd, rfl⟩⟩; (try first | exact ⟨rfl, _, World.drewN_drewN _ _ _⟩ | exact ⟨rfl, _, Eq.trans (World.drewN_drewN _ _ _) (congrArg (World.drewN _) (Nat.add_assoc _ _ _))⟩))))
   go_ret
   exact ⟨by first | rfl | (simp; done) | (simp [*]; done), by repeat (first | exact Drawn0.refl _ | apply Drawn0.step)⟩
 obtain ⟨H, c17b0, c17b1⟩ := en_ c17 H
 by_cases c20 : a0 = 3
 · obtain ⟨H, c20b0, c20b1⟩ := ep_ c20 H
   clear c20
   replace H := gd_ H; obtain ⟨c21, H⟩ := H
   have c21b0 : decide (0 ≤ a1) = true := decide_eq_true c21
   clear c21
   replace H := gd_ H; obtain ⟨c22, H⟩ := H
   have c22b0 : decide (a1 < (a2.size : Int)) = true := decide_eq_true c22
   clear c22
   obtain ⟨ji24, hji24⟩ : ∃ j_ : Int, (wrap64 (a1 + 1)) = j_ := ⟨_, rfl⟩
   replace H : (if 0 ≤ (ji24) then (if (ji24) < (a2.size : Int) then (if (bt a2 a1) < (bt a2 (ji24)) then (some 1) else (some 0)) else (none)) else (none)) = some r := by first | (rw [hji24] at H; exact H) | (simp only [hji24] at H ⊢; exact H)
   have hji24w : (IntKind.i64.wrap (a1 + 1)) = ji24 := (i64_w _).trans hji24
   replace H := gd_ H; obtain ⟨c25, H⟩ := H
   have c25b0 : decide (0 ≤ (ji24)) = true := decide_eq_true c25
   clear c25
   replace H := gd_ H; obtain ⟨c26, H⟩ := H
   have c26b0 : decide ((ji24) < (a2.size : Int)) = true := decide_eq_true c26
   clear c26
   by_cases c28 : (bt a2 a1) < (bt a2 (ji24))
   · rw [if_pos c28] at H
     have c28b0 := decide_eq_true c28
     clear c28
     obtain rfl := Option.some.inj H
     have p23 : 0 ≤ (a1 : Int) := of_decide_eq_true zS_
     have q23 : a1 < (a2.size : Int) := of_decide_eq_true zS_
     have hx23 := bt_at a2 a1
     replace p23 := eq_true p23
     replace q23 := eq_true q23
     have p27 : 0 ≤ ((ji24) : Int) := of_decide_eq_true zS_
     have q27 : (ji24) < (a2.size : Int) := of_decide_eq_true zS_
     have hx27 := bt_at a2 (ji24)
     replace p27 := eq_true p27
     replace q27 := eq_true q27
     go_enter Tryz.func104, Tryz.ntmps104
     go_wp2
     repeat (go_quiet (fail); try go_wp2)
     go_ret
     exact ⟨by first | rfl | (simp; done) | (simp only [← hji24] <;> (first | rfl | simp)) | (simp [*]; done), by repeat (first | exact Drawn0.refl _ | apply Drawn0.step)⟩
   rw [if_neg c28] at H
   have c28b0 := decide_eq_false c28
   clear c28
   obtain rfl := Option.some.inj H
   have p23 : 0 ≤ (a1 : Int) := of_decide_eq_true zS_
   have q23 : a1 < (a2.size : Int) := of_decide_eq_true zS_
   have hx23 := bt_at a2 a1
   replace p23 := eq_true p23
   replace q23 := eq_true q23
   have p27 : 0 ≤ ((ji24) : Int) := of_decide_eq_true zS_
   have q27 : (ji24) < (a2.size : Int) := of_decide_eq_true zS_
   have hx27 := bt_at a2 (ji24)
   replace p27 := eq_true p27
   replace q27 := eq_true q27
   go_enter Tryz.func104, Tryz.ntmps104
   go_wp2
   repeat (go_quiet (fail); try go_wp2)
   go_ret
   exact ⟨by first | rfl | (simp; done) | (simp only [← hji24] <;> (first | rfl | simp)) | (simp [*]; done), by repeat (first | exact Drawn0.refl _ | apply Drawn0.step)⟩
 obtain ⟨H, c20b0, c20b1⟩ := en_ c20 H
 have H' := Aside0.mk H
 clear H
 go_enter Tryz.func104, Tryz.ntmps104
 go_wp2
 repeat (go_quiet (fail); try go_wp2)
 go_loopg [7, 8] k (fun kq v7 v8 w' => ∃ (x7_1 : Int) (x8_1 : Int), v7 = .int .i64 x7_1 ∧ v8 = .int .i64 x8_1 ∧ Aside0 (spec_pzValue.l0 kq a2 x7_1 x8_1 = some r) ∧ Aside0 (kq ≤ k) ∧ Drawn0 w w')
 case atStart => exact ⟨(0), (0), zV_, zV_, H', ⟨Nat.le_refl _⟩, by repeat (first | exact Drawn0.refl _ | apply Drawn0.step)⟩
 case round =>
  clear H'
  obtain ⟨x7_1, x8_1, rfl, rfl, HA, HK1, ⟨m1, rfl⟩⟩ := hrel
  cases gk with
  | zero => exact absurd HA.out (by simp [spec_pzValue.l0])
  | succ k1 =>
   have H := HA.out
   clear HA
   simp only [spec_pzValue.l0] at H
   by_cases c29 : x8_1 < 4
   rotate_left
   · rw [if_neg c29] at H
     have c29b0 := decide_eq_false c29
     clear c29
     obtain rfl := Option.some.inj H
     go_wp2
     repeat (go_quiet (fail); try go_wp2)
     go_ret
     exact ⟨by first | rfl | (simp; done) | (simp [*]; done), by repeat (first | exact Drawn0.refl _ | apply Drawn0.step)⟩
   rw [if_pos c29] at H
   have c29b0 := decide_eq_true c29
   clear c29
   replace H := gd_ H; obtain ⟨c30, H⟩ := H
   have c30b0 := eq_true c30
   have c30b1 : decide (0 ≤ x8_1) = true := decide_eq_true c30
   clear c30
   replace H := gd_ H; obtain ⟨c31, H⟩ := H
   have c31b0 := eq_true c31
   have c31b1 : decide (x8_1 ≤ (a2.size : Int)) = true := decide_eq_true c31
   clear c31
   replace H := gd_ H; obtain ⟨c32, H⟩ := H
   have c32b0 : decide (x8_1 < (a2.size : Int)) = true := decide_eq_true c32
   clear c32
   replace H := bd_ H; obtain ⟨t212, A34, H⟩ := H
   by_cases c35 : t212 < 0
   · rw [if_pos c35] at H
     have c35b0 := decide_eq_true c35
     clear c35
     have H' := Aside0.mk H
     clear H
     have p33 : 0 ≤ (x8_1 : Int) := of_decide_eq_true zS_
     have q33 : x8_1 < (a2.size : Int) := of_decide_eq_true zS_
     have hx33 := bt_at a2 x8_1
     replace p33 := eq_true p33
     replace q33 := eq_true q33
     go_wp2_with (first | (go_at_call 126; (with_reducible refine (spec_l1Find.calls k1 (a2.extract 0 (x8_1 : Int).toNat) (bt a2 x8_1) t212 _ A34.out).mono ?_); rintro e w' ⟨rfl, ⟨nd, rfl⟩⟩; (try first | exact ⟨rfl, _, World.drewN_drewN _ _ _⟩ | exact ⟨rfl, _, Eq.trans (World.drewN_drewN _ _ _) (congrArg (World.drewN _) (Nat.add_assoc _ _ _))⟩)))
     repeat (go_quiet (first | (go_at_call 126; (with_reducible refine (spec_l1Find.calls k1 (a2.extract 0 (x8_1 : Int).toNat) (bt a2 x8_1) t212 _ A34.out).mono ?_); rintro e w' ⟨rfl, ⟨nd, rfl⟩⟩; (try first | exact ⟨rfl, _, World.drewN_drewN _ _ _⟩ | exact ⟨rfl, _, Eq.trans (World.drewN_drewN _ _ _) (congrArg (World.drewN _) (Nat.add_assoc _ _ _))⟩))); try go_wp2_with (first | (go_at_call 126; (with_reducible refine (spec_l1Find.calls k1 (a2.extract 0 (x8_1 : Int).toNat) (bt a2 x8_1) t212 _ A34.out).mono ?_); rintro e w' ⟨rfl, ⟨nd, rfl⟩⟩; (try first | exact ⟨rfl, _, World.drewN_drewN _ _ _⟩ | exact ⟨rfl, _, Eq.trans (World.drewN_drewN _ _ _) (congrArg (World.drewN _) (Nat.add_assoc _ _ _))⟩))))
     go_roundg k1
     case measure => have := HK1.out; omega
     case rel => exact ⟨(wrap64 (x7_1 + 1)), (wrap64 (x8_1 + 1)), zV_, zV_, H', ⟨by have := HK1.out; omega⟩, by repeat (first | exact Drawn0.refl _ | apply Drawn0.step)⟩
   rw [if_neg c35] at H
   have c35b0 := decide_eq_false c35
   clear c35
   have H' := Aside0.mk H
   clear H
   have p33 : 0 ≤ (x8_1 : Int) := of_decide_eq_true zS_
   have q33 : x8_1 < (a2.size : Int) := of_decide_eq_true zS_
   have hx33 := bt_at a2 x8_1
   replace p33 := eq_true p33
   replace q33 := eq_true q33
   go_wp2_with (first | (go_at_call 126; (with_reducible refine (spec_l1Find.calls k1 (a2.extract 0 (x8_1 : Int).toNat) (bt a2 x8_1) t212 _ A34.out).mono ?_); rintro e w' ⟨rfl, ⟨nd, rfl⟩⟩; (try first | exact ⟨rfl, _, World.drewN_drewN _ _ _⟩ | exact ⟨rfl, _, Eq.trans (World.drewN_drewN _ _ _) (congrArg (World.drewN _) (Nat.add_assoc _ _ _))⟩)))
   repeat (go_quiet (first | (go_at_call 126; (with_reducible refine (spec_l1Find.calls k1 (a2.extract 0 (x8_1 : Int).toNat) (bt a2 x8_1) t212 _ A34.out).mono ?_); rintro e w' ⟨rfl, ⟨nd, rfl⟩⟩; (try first | exact ⟨rfl, _, World.drewN_drewN _ _ _⟩ | exact ⟨rfl, _, Eq.trans (World.drewN_drewN _ _ _) (congrArg (World.drewN _) (Nat.add_assoc _ _ _))⟩))); try go_wp2_with (first | (go_at_call 126; (with_reducible refine (spec_l1Find.calls k1 (a2.extract 0 (x8_1 : Int).toNat) (bt a2 x8_1) t212 _ A34.out).mono ?_); rintro e w' ⟨rfl, ⟨nd, rfl⟩⟩; (try first | exact ⟨rfl, _, World.drewN_drewN _ _ _⟩ | exact ⟨rfl, _, Eq.trans (World.drewN_drewN _ _ _) (congrArg (World.drewN _) (Nat.add_assoc _ _ _))⟩))))
   go_roundg k1
   case measure => have := HK1.out; omega
   case rel => exact ⟨(x7_1), (wrap64 (x8_1 + 1)), zV_, zV_, H', ⟨by have := HK1.out; omega⟩, by repeat (first | exact Drawn0.refl _ | apply Drawn0.step)⟩

/-! ### spec_pzOf: function 69 -/
def spec_pzOf.f (k : Nat) (a0 : Int) (a1 : Int) (a2 : ByteArray) : Option (Int × Int × Int) := if a0 = 0 then ((spec_pzValue.f k a0 (Int.tmod a1 2) a2).bind fun t214 => (some (a0, Int.tmod a1 2, t214))) else (if a0 = 1 then ((spec_pzValue.f k a0 (Int.tmod a1 4) a2).bind fun t215 => (some (a0, Int.tmod a1 4, t215))) else (if a0 = 3 then ((spec_pzValue.f k a0 (Int.tmod a1 3) a2).bind fun t216 => (some (a0, Int.tmod a1 3, t216))) else ((spec_pzValue.f k a0 0 a2).bind fun t217 => (some (a0, 0, t217)))))
theorem spec_pzOf.mono : ∀ a0 a1 a2 k, LeO (spec_pzOf.f k a0 a1 a2) (spec_pzOf.f (k + 1) a0 a1 a2) := by
 intro a0 a1 a2 k
 unfold spec_pzOf.f
 have m1_ := @spec_pzValue.mono
 exact zM_
set_option maxHeartbeats 8000000 in
set_option maxRecDepth 100000 in
theorem spec_pzOf.calls (k : Nat) (a0 : Int) (a1 : Int) (a2 : ByteArray) (r1 : Int) (r2 : Int) (r3 : Int) (w : World) (h : spec_pzOf.f k a0 a1 a2 = some (r1, r2, r3)) :
 Calls Tryz.prog 69 #[.int .i64 a0, .int .i64 a1, .string a2] w fun e w' => e = .returned (.agg #[.int .i64 r1, .int .i64 r2, .int .i64 r3]) ∧ Below w.heap.size w w' := by
 have hu37 := Tryz.underlying37
 have HB := Aside0.mk (Below.refl w.heap.size w)
 unfold spec_pzOf.f at h
 have H := h
 clear h
 by_cases c4 : a0 = 0
 · obtain ⟨H, c4b0, c4b1⟩ := ep_ c4 H
   clear c4
   replace H := bd_ H; obtain ⟨t214, A5, H⟩ := H
   simp only [Option.some.injEq, Prod.mk.injEq] at H
   obtain ⟨rfl, rfl, rfl⟩ := H
   go_enter Tryz.func69, Tryz.ntmps69
   go_wp2_with (first | (refine bx_ 6 #[.int .i64 0, .int .i64 0, .int .i64 0] 37 ?_; intro gb213 hg w6 hbox hb; have BK213 := Aside0.mk (hbox); have GW213 : Aside0 (w.heap.size ≤ gb213) := bs_ hg zB_; have GE213 := GW213; replace HB := Aside0.mk (below_step zB_ hb); clear hb hbox hg) | ((with_reducible refine gc_ 104 rfl ?_); refine gL_ 26 Tryz.func104 #[.int .i64 a0, .int .i64 (Int.tmod a1 2), .string a2] ?_; (with_reducible refine (spec_pzValue.calls k a0 (Int.tmod a1 2) a2 t214 _ A5.out).mono ?_); rintro e w' ⟨rfl, ⟨nd, rfl⟩⟩; refine ⟨_, rfl, ?_⟩; (try (rw [drewN_self w6]; generalize hq_ : World.drewN w6 _ = w6; have n0_ : Aside0 (w6.heap[gb213]? = some (.cells #[.int .i64 0, .int .i64 0, .int .i64 0] 37 (0, 0))) := ⟨by rw [← hq_]; exact z7_4_⟩; have n1_ : Aside0 (Below w.heap.size w w6) := ⟨by rw [← hq_]; exact z7_2_⟩; clear BK213 HB hq_; have BK213 := n0_; have HB := n1_; clear n0_ n1_)); have hcz7_0 : w6.cell? ⟨gb213, 0, none⟩ = some (.int .i64 0) := (blk_cell BK213.out 0).trans rfl; have hcz7_1 : w6.cell? ⟨gb213, 1, none⟩ = some (.int .i64 0) := (blk_cell BK213.out 1).trans rfl; have hcz7_2 : w6.cell? ⟨gb213, 2, none⟩ = some (.int .i64 0) := (blk_cell BK213.out 2).trans rfl; have hfz7_0 := blk_frozen BK213.out 0; have hfz7_1 := blk_frozen BK213.out 1; have hfz7_2 := blk_frozen BK213.out 2))
   refine bodyPost_ret (results_cell_row rfl _ _ gb213 37 #[.int .i64 a0, .int .i64 (Int.tmod a1 2), .int .i64 t214] (0, 0) _ rfl (by refine b_ ?_; refine blk_put (cs := #[.int .i64 a0, .int .i64 (Int.tmod a1 2), .int .i64 0]) ?_ 2 _ rfl; refine b_ ?_; refine blk_put (cs := #[.int .i64 a0, .int .i64 0, .int .i64 0]) ?_ 1 _ rfl; refine b_ ?_; refine blk_put (cs := #[.int .i64 0, .int .i64 0, .int .i64 0]) ?_ 0 _ rfl; exact b_ BK213.out) Tryz.underlying37 rfl (by kernel_rfl)) rfl ?_
   exact ⟨zR_, by repeat (first | (with_reducible first | exact HB.out | apply below_alloc | apply pw_below_drewN | apply below_drew1 | refine below_set ?_ GE213.out) | exact HB.out)⟩
 obtain ⟨H, c4b0, c4b1⟩ := en_ c4 H
 by_cases c8 : a0 = 1
 · obtain ⟨H, c8b0, c8b1⟩ := ep_ c8 H
   clear c8
   replace H := bd_ H; obtain ⟨t215, A9, H⟩ := H
   simp only [Option.some.injEq, Prod.mk.injEq] at H
   obtain ⟨rfl, rfl, rfl⟩ := H
   go_enter Tryz.func69, Tryz.ntmps69
   go_wp2_with (first | (refine bx_ 6 #[.int .i64 0, .int .i64 0, .int .i64 0] 37 ?_; intro gb213 hg w10 hbox hb; have BK213 := Aside0.mk (hbox); have GW213 : Aside0 (w.heap.size ≤ gb213) := bs_ hg zB_; have GE213 := GW213; replace HB := Aside0.mk (below_step zB_ hb); clear hb hbox hg) | ((with_reducible refine gc_ 104 rfl ?_); refine gL_ 26 Tryz.func104 #[.int .i64 a0, .int .i64 (Int.tmod a1 4), .string a2] ?_; (with_reducible refine (spec_pzValue.calls k a0 (Int.tmod a1 4) a2 t215 _ A9.out).mono ?_); rintro e w' ⟨rfl, ⟨nd, rfl⟩⟩; refine ⟨_, rfl, ?_⟩; (try (rw [drewN_self w10]; generalize hq_ : World.drewN w10 _ = w10; have n0_ : Aside0 (w10.heap[gb213]? = some (.cells #[.int .i64 0, .int .i64 0, .int .i64 0] 37 (0, 0))) := ⟨by rw [← hq_]; exact z7_4_⟩; have n1_ : Aside0 (Below w.heap.size w w10) := ⟨by rw [← hq_]; exact z7_2_⟩; clear BK213 HB hq_; have BK213 := n0_; have HB := n1_; clear n0_ n1_)); have hcz11_0 : w10.cell? ⟨gb213, 0, none⟩ = some (.int .i64 0) := (blk_cell BK213.out 0).trans rfl; have hcz11_1 : w10.cell? ⟨gb213, 1, none⟩ = some (.int .i64 0) := (blk_cell BK213.out 1).trans rfl; have hcz11_2 : w10.cell? ⟨gb213, 2, none⟩ = some (.int .i64 0) := (blk_cell BK213.out 2).trans rfl; have hfz11_0 := blk_frozen BK213.out 0; have hfz11_1 := blk_frozen BK213.out 1; have hfz11_2 := blk_frozen BK213.out 2))
   refine bodyPost_ret (results_cell_row rfl _ _ gb213 37 #[.int .i64 a0, .int .i64 (Int.tmod a1 4), .int .i64 t215] (0, 0) _ rfl (by refine b_ ?_; refine blk_put (cs := #[.int .i64 a0, .int .i64 (Int.tmod a1 4), .int .i64 0]) ?_ 2 _ rfl; refine b_ ?_; refine blk_put (cs := #[.int .i64 a0, .int .i64 0, .int .i64 0]) ?_ 1 _ rfl; refine b_ ?_; refine blk_put (cs := #[.int .i64 0, .int .i64 0, .int .i64 0]) ?_ 0 _ rfl; exact b_ BK213.out) Tryz.underlying37 rfl (by kernel_rfl)) rfl ?_
   exact ⟨zR_, by repeat (first | (with_reducible first | exact HB.out | apply below_alloc | apply pw_below_drewN | apply below_drew1 | refine below_set ?_ GE213.out) | exact HB.out)⟩
 obtain ⟨H, c8b0, c8b1⟩ := en_ c8 H
 by_cases c12 : a0 = 3
 · obtain ⟨H, c12b0, c12b1⟩ := ep_ c12 H
   clear c12
   replace H := bd_ H; obtain ⟨t216, A13, H⟩ := H
   simp only [Option.some.injEq, Prod.mk.injEq] at H
   obtain ⟨rfl, rfl, rfl⟩ := H
   go_enter Tryz.func69, Tryz.ntmps69
   go_wp2_with (first | (refine bx_ 6 #[.int .i64 0, .int .i64 0, .int .i64 0] 37 ?_; intro gb213 hg w14 hbox hb; have BK213 := Aside0.mk (hbox); have GW213 : Aside0 (w.heap.size ≤ gb213) := bs_ hg zB_; have GE213 := GW213; replace HB := Aside0.mk (below_step zB_ hb); clear hb hbox hg) | ((with_reducible refine gc_ 104 rfl ?_); refine gL_ 26 Tryz.func104 #[.int .i64 a0, .int .i64 (Int.tmod a1 3), .string a2] ?_; (with_reducible refine (spec_pzValue.calls k a0 (Int.tmod a1 3) a2 t216 _ A13.out).mono ?_); rintro e w' ⟨rfl, ⟨nd, rfl⟩⟩; refine ⟨_, rfl, ?_⟩; (try (rw [drewN_self w14]; generalize hq_ : World.drewN w14 _ = w14; have n0_ : Aside0 (w14.heap[gb213]? = some (.cells #[.int .i64 0, .int .i64 0, .int .i64 0] 37 (0, 0))) := ⟨by rw [← hq_]; exact z7_4_⟩; have n1_ : Aside0 (Below w.heap.size w w14) := ⟨by rw [← hq_]; exact z7_2_⟩; clear BK213 HB hq_; have BK213 := n0_; have HB := n1_; clear n0_ n1_)); have hcz15_0 : w14.cell? ⟨gb213, 0, none⟩ = some (.int .i64 0) := (blk_cell BK213.out 0).trans rfl; have hcz15_1 : w14.cell? ⟨gb213, 1, none⟩ = some (.int .i64 0) := (blk_cell BK213.out 1).trans rfl; have hcz15_2 : w14.cell? ⟨gb213, 2, none⟩ = some (.int .i64 0) := (blk_cell BK213.out 2).trans rfl; have hfz15_0 := blk_frozen BK213.out 0; have hfz15_1 := blk_frozen BK213.out 1; have hfz15_2 := blk_frozen BK213.out 2))
   refine bodyPost_ret (results_cell_row rfl _ _ gb213 37 #[.int .i64 a0, .int .i64 (Int.tmod a1 3), .int .i64 t216] (0, 0) _ rfl (by refine b_ ?_; refine blk_put (cs := #[.int .i64 a0, .int .i64 (Int.tmod a1 3), .int .i64 0]) ?_ 2 _ rfl; refine b_ ?_; refine blk_put (cs := #[.int .i64 a0, .int .i64 0, .int .i64 0]) ?_ 1 _ rfl; refine b_ ?_; refine blk_put (cs := #[.int .i64 0, .int .i64 0, .int .i64 0]) ?_ 0 _ rfl; exact b_ BK213.out) Tryz.underlying37 rfl (by kernel_rfl)) rfl ?_
   exact ⟨zR_, by repeat (first | (with_reducible first | exact HB.out | apply below_alloc | apply pw_below_drewN | apply below_drew1 | refine below_set ?_ GE213.out) | exact HB.out)⟩
 obtain ⟨H, c12b0, c12b1⟩ := en_ c12 H
 replace H := bd_ H; obtain ⟨t217, A16, H⟩ := H
 simp only [Option.some.injEq, Prod.mk.injEq] at H
 obtain ⟨rfl, rfl, rfl⟩ := H
 go_enter Tryz.func69, Tryz.ntmps69
 go_wp2_with (first | (refine bx_ 6 #[.int .i64 0, .int .i64 0, .int .i64 0] 37 ?_; intro gb213 hg w17 hbox hb; have BK213 := Aside0.mk (hbox); have GW213 : Aside0 (w.heap.size ≤ gb213) := bs_ hg zB_; have GE213 := GW213; replace HB := Aside0.mk (below_step zB_ hb); clear hb hbox hg) | ((with_reducible refine gc_ 104 rfl ?_); refine gL_ 26 Tryz.func104 #[.int .i64 a0, .int .i64 0, .string a2] ?_; (with_reducible refine (spec_pzValue.calls k a0 0 a2 t217 _ A16.out).mono ?_); rintro e w' ⟨rfl, ⟨nd, rfl⟩⟩; refine ⟨_, rfl, ?_⟩; (try (rw [drewN_self w17]; generalize hq_ : World.drewN w17 _ = w17; have n0_ : Aside0 (w17.heap[gb213]? = some (.cells #[.int .i64 0, .int .i64 0, .int .i64 0] 37 (0, 0))) := ⟨by rw [← hq_]; exact z7_4_⟩; have n1_ : Aside0 (Below w.heap.size w w17) := ⟨by rw [← hq_]; exact z7_2_⟩; clear BK213 HB hq_; have BK213 := n0_; have HB := n1_; clear n0_ n1_)); have hcz18_0 : w17.cell? ⟨gb213, 0, none⟩ = some (.int .i64 0) := (blk_cell BK213.out 0).trans rfl; have hcz18_1 : w17.cell? ⟨gb213, 1, none⟩ = some (.int .i64 0) := (blk_cell BK213.out 1).trans rfl; have hcz18_2 : w17.cell? ⟨gb213, 2, none⟩ = some (.int .i64 0) := (blk_cell BK213.out 2).trans rfl; have hfz18_0 := blk_frozen BK213.out 0; have hfz18_1 := blk_frozen BK213.out 1; have hfz18_2 := blk_frozen BK213.out 2))
 refine bodyPost_ret (results_cell_row rfl _ _ gb213 37 #[.int .i64 a0, .int .i64 0, .int .i64 t217] (0, 0) _ rfl (by refine b_ ?_; refine blk_put (cs := #[.int .i64 a0, .int .i64 0, .int .i64 0]) ?_ 2 _ rfl; refine b_ ?_; refine blk_put (cs := #[.int .i64 a0, .int .i64 0, .int .i64 0]) ?_ 1 _ rfl; refine b_ ?_; refine blk_put (cs := #[.int .i64 0, .int .i64 0, .int .i64 0]) ?_ 0 _ rfl; exact b_ BK213.out) Tryz.underlying37 rfl (by kernel_rfl)) rfl ?_
 exact ⟨zR_, by repeat (first | (with_reducible first | exact HB.out | apply below_alloc | apply pw_below_drewN | apply below_drew1 | refine below_set ?_ GE213.out) | exact HB.out)⟩

theorem z8_1_ {p : Prop} (h : p := by repeat (first | (with_reducible first | exact HB.out | apply below_alloc | apply pw_below_drewN | apply below_drew1 | refine below_set ?_ GE231.out) | exact HB.out)) : p := h
theorem z8_2_ {p : Prop} (h : p := by (try simp only [List.map_toArray, List.map_cons, List.map_nil]); first | done | rfl | (simp only [List.length_drop, List.length_take]; rfl)) : p := h
theorem z8_3_ {p : Prop} (h : p := by exact b_ BK231.out) : p := h
theorem z8_4_ {p : Prop} (h : p := by repeat (first | (with_reducible first | exact HB.out | apply below_alloc | apply pw_below_drewN | apply below_drew1 | refine below_set ?_ GE218.out | refine below_set ?_ GE222.out) | exact HB.out)) : p := h
theorem z8_5_ {p : Prop} (h : p := by exact b_ BK218.out) : p := h
theorem z8_6_ {p : Prop} (h : p := by refine b_ ?_; refine blk_put (cs := #[.slice none 0 0]) ?_ 0 _ rfl; exact b_ BK218.out) : p := h
theorem z8_7_ {p : Prop} (h : p := by repeat (first | (with_reducible first | exact HB.out | apply below_alloc | apply pw_below_drewN | apply below_drew1 | refine below_set ?_ GE218.out) | exact HB.out)) : p := h
theorem z8_8_ {p : Prop} (h : p := by exact b_ BK222.out) : p := h
theorem z8_9_ {p : Prop} (h : p := by exact rr_ HO_223000.out) : p := h

attribute [local go_sem high] eqA37
/-! ### spec_MakePuzzle: function 8 -/
mutual
def spec_MakePuzzle.j0 : Nat → ByteArray → Int → Int → Bool → Option ((List (S37)) × Bool)
 | 0, _, _, _, _ => none
 | k + 1, x0, x1, x2, x23 => if x23 = true then (some (([] : List (S37)), false)) else (spec_MakePuzzle.l0 k x0 x1 x2 ([] : List (S37)))
def spec_MakePuzzle.l0 : Nat → ByteArray → Int → Int → List (S37) → Option ((List (S37)) × Bool)
 | 0, _, _, _, _ => none
 | k + 1, x0, x1, x9, x223000 => if x1 > 0 then ((spec_pzNext.f x9).bind fun t223 => ((spec_pzNext.f t223).bind fun t224 => ((spec_pzOf.f k (Int.tmod t223 5) t224 x0).bind fun bt225 => (if x223000.length < 5864062014805 then (spec_MakePuzzle.l0 k x0 (wrap64 (x1 - 1)) t224 (x223000 ++ [(⟨bt225.1, bt225.2.1, bt225.2.2⟩ : S37)])) else (none))))) else (some (x223000, true))
end
def spec_MakePuzzle.f (k : Nat) (a0 : ByteArray) (a1 : Int) (a2 : Int) : Option ((List (S37)) × Bool) := (spec_pzHidden.f k a0).bind fun t219 => (if t219 = true then ((spec_l1In.f a1 0 6).bind fun t220 => (if t220 = true then ((spec_l1In.f a2 0 9999).bind fun t221 => (spec_MakePuzzle.j0 k a0 a1 a2 (!t221))) else (spec_MakePuzzle.j0 k a0 a1 a2 true))) else (spec_MakePuzzle.j0 k a0 a1 a2 true))
theorem spec_MakePuzzle.mono_l : ∀ k, (∀ y0 y1 y2 y3, LeO (spec_MakePuzzle.j0 k y0 y1 y2 y3) (spec_MakePuzzle.j0 (k + 1) y0 y1 y2 y3)) ∧ (∀ y0 y1 y2 y3, LeO (spec_MakePuzzle.l0 k y0 y1 y2 y3) (spec_MakePuzzle.l0 (k + 1) y0 y1 y2 y3))
 | 0 => ⟨fun _ _ _ _ r h => by simp [spec_MakePuzzle.j0] at h, fun _ _ _ _ r h => by simp [spec_MakePuzzle.l0] at h⟩
 | k + 1 => by
  obtain ⟨ih0, ih1⟩ := spec_MakePuzzle.mono_l k
  refine ⟨?_, ?_⟩
  · intro y0 y1 y2 y3
    unfold spec_MakePuzzle.j0
    repeat' first
    | (with_reducible exact ih0 _ _ _ _)
    | (with_reducible exact ih1 _ _ _ _)
    | (with_reducible exact spec_pzHidden.mono _ _)
    | (with_reducible exact spec_pzOf.mono _ _ _ _)
    | (with_reducible exact LeO.refl _)
    | (with_reducible exact LeO.none _)
    | (with_reducible refine LeO.ite ?_ ?_)
    | (with_reducible refine LeO.bind ?_ (fun _ => ?_))
    | exact LeO.none _
    | refine LeO.ite ?_ ?_
    | refine LeO.bind ?_ (fun _ => ?_)
  intro y0 y1 y2 y3
  unfold spec_MakePuzzle.l0
  repeat' first
  | (with_reducible exact ih0 _ _ _ _)
  | (with_reducible exact ih1 _ _ _ _)
  | (with_reducible exact spec_pzHidden.mono _ _)
  | (with_reducible exact spec_pzOf.mono _ _ _ _)
  | (with_reducible exact LeO.refl _)
  | (with_reducible exact LeO.none _)
  | (with_reducible refine LeO.ite ?_ ?_)
  | (with_reducible refine LeO.bind ?_ (fun _ => ?_))
  | exact LeO.none _
  | refine LeO.ite ?_ ?_
  | refine LeO.bind ?_ (fun _ => ?_)
theorem spec_MakePuzzle.mono : ∀ a0 a1 a2 k, LeO (spec_MakePuzzle.f k a0 a1 a2) (spec_MakePuzzle.f (k + 1) a0 a1 a2) := by
 intro a0 a1 a2 k
 obtain ⟨ih0, ih1⟩ := spec_MakePuzzle.mono_l k
 unfold spec_MakePuzzle.f
 repeat' first
  | (with_reducible exact ih0 _ _ _ _)
  | (with_reducible exact ih1 _ _ _ _)
  | (with_reducible exact spec_pzHidden.mono _ _)
  | (with_reducible exact spec_pzOf.mono _ _ _ _)
  | (with_reducible exact LeO.refl _)
  | (with_reducible exact LeO.none _)
  | (with_reducible refine LeO.ite ?_ ?_)
  | (with_reducible refine LeO.bind ?_ (fun _ => ?_))
  | exact LeO.none _
  | refine LeO.ite ?_ ?_
  | refine LeO.bind ?_ (fun _ => ?_)
def spec_MakePuzzle.T10 : Bool × List (List Nat × List Nat) := (true, [([], []), ([0], [0]), ([], []), ([], []), ([], []), ([2, 3, 4], [2, 3, 4]), ([5], [5]), ([1, 6, 5], [1, 6]), ([0, 1, 2, 3, 4, 5, 6, 7], []), ([8, 7, 7, 0, 1, 2, 3, 4, 5, 6, 7], [7, 8])])
def spec_MakePuzzle.B10 : List Nat := [0, 1, 0, 0, 0, 28, 60, 127, 255, 511]
theorem spec_MakePuzzle.tab10 : rtab .any (opsOf Tryz.f8 10) = spec_MakePuzzle.T10 := by kernel_rfl
theorem spec_MakePuzzle.bits10 : waitsOk spec_MakePuzzle.T10.2 spec_MakePuzzle.B10 = true := by kernel_rfl
set_option maxHeartbeats 8000000 in
set_option maxRecDepth 100000 in
theorem spec_MakePuzzle.calls (k : Nat) (a0 : ByteArray) (a1 : Int) (a2 : Int) (r1 : List (S37)) (r2 : Bool) (w : World) (h : spec_MakePuzzle.f k a0 a1 a2 = some (r1, r2)) :
 Calls Tryz.prog 8 #[.string a0, .int .i64 a1, .int .i64 a2] w fun e w' => ∃ v0_ : Value, e = .returned (.tuple #[.agg #[v0_], .bool r2]) ∧ Kd.R k37 37 w' w.heap.size (fun _ => True) v0_ r1 ∧ Below w.heap.size w w' := by
 have hu28 := Tryz.underlying28
 have HB := Aside0.mk (Below.refl w.heap.size w)
 unfold spec_MakePuzzle.f at h
 have H := h
 clear h
 have HC4 := Aside0.mk H
 clear H
 go_enter Tryz.func8, Tryz.ntmps8
 go_upto_region 1 with (first | (refine bx_ 6 #[.slice none 0 0] 28 ?_; intro gb218 hg w5 hbox hb; have BK218 := Aside0.mk (hbox); have GW218 : Aside0 (w.heap.size ≤ gb218) := bs_ hg zB_; have GE218 := GW218; replace HB := Aside0.mk (below_step zB_ hb); clear hb hbox hg))
 (try simp only [Act.put, List.setIfInBounds_toArray, List.set_cons_zero, List.set_cons_succ])
 go_cut [23] (fun v23 wc => ∃ (kq : Nat) (x23_3 : Bool), v23 = .bool x23_3 ∧ Aside0 (spec_MakePuzzle.j0 kq a0 a1 a2 x23_3 = some (r1, r2)) ∧ Aside0 (kq ≤ k) ∧ Aside0 (wc.heap[gb218]? = some (.cells #[(.slice none 0 0)] 28 (0, 0))) ∧ Aside0 (Below w.heap.size w wc))
 case first =>
  have H := HC4.out
  clear HC4
  replace H := bd_ H; obtain ⟨t219, A6, H⟩ := H
  by_cases c7 : t219 = true
  rotate_left
  · replace H := bf_ c7 H; obtain ⟨rfl, H⟩ := H
    have H' := Aside0.mk H
    clear H
    go_wp2_with (first | ((with_reducible refine gc_ 66 rfl ?_); refine gL_ 12 Tryz.func66 #[.string a0] ?_; (with_reducible refine (spec_pzHidden.calls k a0 false _ A6.out).mono ?_); rintro e w' ⟨rfl, ⟨nd, rfl⟩⟩; refine ⟨_, rfl, ?_⟩))
    go_meet
    case rel => exact ⟨_, (true), zV_, H', ⟨by first | omega | exact Nat.le_refl _⟩, ⟨b_ BK218.out⟩, ⟨by repeat (first | (with_reducible first | exact HB.out | apply below_alloc | apply pw_below_drewN | apply below_drew1 | refine below_set ?_ GE218.out) | exact HB.out)⟩⟩
  subst c7
  rw [if_pos rfl] at H
  replace H := bd_ H; obtain ⟨t220, A8, H⟩ := H
  by_cases c9 : t220 = true
  · subst c9
    rw [if_pos rfl] at H
    replace H := bd_ H; obtain ⟨t221, A10, H⟩ := H
    have H' := Aside0.mk H
    clear H
    go_wp2_with (first | ((with_reducible refine gc_ 66 rfl ?_); refine gL_ 12 Tryz.func66 #[.string a0] ?_; (with_reducible refine (spec_pzHidden.calls k a0 true _ A6.out).mono ?_); rintro e w' ⟨rfl, ⟨nd, rfl⟩⟩; refine ⟨_, rfl, ?_⟩) | (go_at_call 67; (with_reducible refine (spec_l1In.calls a1 0 6 true _ A8.out).mono ?_); rintro e w' ⟨rfl, ⟨nd, rfl⟩⟩) | (go_at_call 67; (with_reducible refine (spec_l1In.calls a2 0 9999 t221 _ A10.out).mono ?_); rintro e w' ⟨rfl, ⟨nd, rfl⟩⟩))
    go_meet
    case rel => exact ⟨_, (!t221), zV_, H', ⟨by first | omega | exact Nat.le_refl _⟩, ⟨b_ BK218.out⟩, ⟨by repeat (first | (with_reducible first | exact HB.out | apply below_alloc | apply pw_below_drewN | apply below_drew1 | refine below_set ?_ GE218.out) | exact HB.out)⟩⟩
  replace H := bf_ c9 H; obtain ⟨rfl, H⟩ := H
  have H' := Aside0.mk H
  clear H
  go_wp2_with (first | ((with_reducible refine gc_ 66 rfl ?_); refine gL_ 12 Tryz.func66 #[.string a0] ?_; (with_reducible refine (spec_pzHidden.calls k a0 true _ A6.out).mono ?_); rintro e w' ⟨rfl, ⟨nd, rfl⟩⟩; refine ⟨_, rfl, ?_⟩) | (go_at_call 67; (with_reducible refine (spec_l1In.calls a1 0 6 false _ A8.out).mono ?_); rintro e w' ⟨rfl, ⟨nd, rfl⟩⟩))
  go_meet
  case rel => exact ⟨_, (true), zV_, H', ⟨by first | omega | exact Nat.le_refl _⟩, ⟨b_ BK218.out⟩, ⟨by repeat (first | (with_reducible first | exact HB.out | apply below_alloc | apply pw_below_drewN | apply below_drew1 | refine below_set ?_ GE218.out) | exact HB.out)⟩⟩
 case rest =>
  clear HC4
  obtain ⟨kq, x23_3, rfl, HA, HJ3, BK218, HB⟩ := hcut
  cases kq with
  | zero => exact absurd HA.out (by simp [spec_MakePuzzle.j0])
  | succ kj3 =>
   have H := HA.out
   clear HA
   simp only [spec_MakePuzzle.j0] at H
   by_cases c11 : x23_3 = true
   · subst c11
     rw [if_pos rfl] at H
     simp only [Option.some.injEq, Prod.mk.injEq] at H
     obtain ⟨rfl, rfl⟩ := H
     have hcz12_0 : wc.cell? ⟨gb218, 0, none⟩ = some (.slice none 0 0) := (blk_cell BK218.out 0).trans rfl
     have hfz12_0 := blk_frozen BK218.out 0
     go_wp2
     refine bodyPost_ret (results_ct rfl _ _ gb218 28 #[.slice none 0 0] (0, 0) _ rfl z8_6_ Tryz.underlying28 rfl (by kernel_rfl)) rfl ?_
     exact ⟨_, by first | rfl | (simp [errW_none, errW_some] <;> rfl) | (simp [*, errW_none, errW_some] <;> rfl), by first | exact Kd.R_nil _ _ _ _ _ | exact Kd.N_nil _ _ _ _ _ | exact Kd.V_nil _ _ _ _ _ | exact Kd.Q_nil _ _ _ _ _ | exact Kd.S_nil _ _ _ _ _, by repeat (first | (with_reducible first | exact HB.out | apply below_alloc | apply pw_below_drewN | apply below_drew1 | refine below_set ?_ GE218.out) | exact HB.out)⟩
   replace H := bf_ c11 H; obtain ⟨rfl, H⟩ := H
   have H' := Aside0.mk H
   clear H
   go_wp2_with (first | (refine bx_ 8 #[.slice none 0 0] 28 ?_; intro gb222 hg w13 hbox hb; have BK222 := Aside0.mk (hbox); have GW222 : Aside0 (w.heap.size ≤ gb222) := bs_ hg z8_7_; have GE222 := GW222; replace HB := Aside0.mk (below_step z8_7_ hb); have NB218_222 := nl_ BK218 z8_5_ hg; have NB222_218 := ns_ NB218_222; replace BK218 := bb_ BK218 z8_5_ hb; clear hb hbox hg; have hnb14 := NB222_218.out; have hnc14 := NB218_222.out; have hcz15_0 : w13.cell? ⟨gb222, 0, none⟩ = some (.slice none 0 0) := (blk_cell BK222.out 0).trans rfl; have hfz15_0 := blk_frozen BK222.out 0))
   go_loopg [1, 9] kj3 (fun kq v1 v9 w' => ∃ (x1_2 : Int) (x9_2 : Int) (x223000_2 : List (S37)) (u223000 : Value), v1 = .int .i64 x1_2 ∧ v9 = .int .i64 x9_2 ∧ Aside0 (spec_MakePuzzle.l0 kq a0 x1_2 x9_2 x223000_2 = some (r1, r2)) ∧ Aside0 (kq ≤ kj3) ∧ Aside0 (Kd.R k37 37 w' w.heap.size (fun _ => True) u223000 x223000_2) ∧ Aside0 (w'.heap[gb218]? = some (.cells #[(.slice none 0 0)] 28 (0, 0))) ∧ Aside0 (w'.heap[gb222]? = some (.cells #[u223000] 28 (0, 0))) ∧ Aside0 (Below w.heap.size w w'))
   case atStart => exact ⟨(a1), (a2), (([] : List (S37))), (.slice none 0 0), zV_, zV_, H', ⟨Nat.le_refl _⟩, ⟨by first | exact Kd.R_nil _ _ _ _ _ | exact Kd.N_nil _ _ _ _ _ | exact Kd.V_nil _ _ _ _ _ | exact Kd.Q_nil _ _ _ _ _ | exact Kd.S_nil _ _ _ _ _⟩, ⟨by refine b_ ?_; refine blk_far ?_ NB218_222.out _; exact b_ BK218.out⟩, ⟨by refine b_ ?_; refine blk_put (cs := #[.slice none 0 0]) ?_ 0 _ rfl; exact b_ BK222.out⟩, ⟨by repeat (first | (with_reducible first | exact HB.out | apply below_alloc | apply pw_below_drewN | apply below_drew1 | refine below_set ?_ GE218.out | refine below_set ?_ GE222.out) | exact HB.out)⟩⟩
   case round =>
    clear H'
    obtain ⟨x1_2, x9_2, x223000_2, u223000, rfl, rfl, HA, HK2, HO_223000, BK218, BK222, HB⟩ := hrel
    cases gk with
    | zero => exact absurd HA.out (by simp [spec_MakePuzzle.l0])
    | succ k2 =>
     have H := HA.out
     clear HA
     simp only [spec_MakePuzzle.l0] at H
     by_cases c16 : x1_2 > 0
     · rw [if_pos c16] at H
       have c16b0 : decide (0 < x1_2) = true := decide_eq_true c16
       clear c16
       replace H := bd_ H; obtain ⟨t223, A17, H⟩ := H
       replace H := bd_ H; obtain ⟨t224, A18, H⟩ := H
       replace H := bd_ H; obtain ⟨⟨t225, t226, t227⟩, A19, H⟩ := H
       dsimp only at H
       replace H := gd_ H; obtain ⟨c20, H⟩ := H
       have LMc20 := Aside0.mk c20
       clear c20
       obtain ⟨y228, hy228⟩ : ∃ y_ : List (S37), y_ = (x223000_2 ++ [(⟨t225, t226, t227⟩ : S37)]) := ⟨_, rfl⟩
       replace H : (spec_MakePuzzle.l0 k2 a0 (wrap64 (x1_2 - 1)) t224 y228) = some (r1, r2) := by first | (rw [hy228]; with_reducible exact H) | (have H2_ := (Option.bind_some _ _).symm.trans H; rw [hy228]; with_reducible exact H2_) | (have H2_ := (Option.bind_some _ _).symm.trans H; with_reducible exact H2_) | with_reducible exact H | (rw [hy228]; exact H) | exact H
       have Ny228 := Aside0.mk hy228
       clear hy228
       have H' := Aside0.mk H
       clear H
       try go_wp2_with (first | ((with_reducible refine gc_ 68 rfl ?_); refine gL_ 32 Tryz.func68 #[.int .i64 x9_2] ?_; (with_reducible refine (spec_pzNext.calls x9_2 t223 _ A17.out).mono ?_); rintro e w' ⟨rfl, ⟨nd, rfl⟩⟩; refine ⟨_, rfl, ?_⟩; (try (rw [drewN_self wr]; generalize hq_ : World.drewN wr _ = wr; have n0_ : Aside0 (Kd.R k37 37 wr w.heap.size (fun _ => True) u223000 x223000_2) := ⟨by rw [← hq_]; exact z8_9_⟩; have n1_ : Aside0 (wr.heap[gb218]? = some (.cells #[.slice none 0 0] 28 (0, 0))) := ⟨by rw [← hq_]; exact z8_5_⟩; have n2_ : Aside0 (wr.heap[gb222]? = some (.cells #[u223000] 28 (0, 0))) := ⟨by rw [← hq_]; exact z8_8_⟩; have n3_ : Aside0 (Below w.heap.size w wr) := ⟨by rw [← hq_]; exact z8_4_⟩; clear HO_223000 BK218 BK222 HB hq_; have HO_223000 := n0_; have BK218 := n1_; have BK222 := n2_; have HB := n3_; clear n0_ n1_ n2_ n3_))) | ((with_reducible refine gc_ 68 rfl ?_); refine gL_ 36 Tryz.func68 #[.int .i64 t223] ?_; (with_reducible refine (spec_pzNext.calls t223 t224 _ A18.out).mono ?_); rintro e w' ⟨rfl, ⟨nd, rfl⟩⟩; refine ⟨_, rfl, ?_⟩; (try (rw [drewN_self wr]; generalize hq_ : World.drewN wr _ = wr; have n0_ : Aside0 (Kd.R k37 37 wr w.heap.size (fun _ => True) u223000 x223000_2) := ⟨by rw [← hq_]; exact z8_9_⟩; have n1_ : Aside0 (wr.heap[gb218]? = some (.cells #[.slice none 0 0] 28 (0, 0))) := ⟨by rw [← hq_]; exact z8_5_⟩; have n2_ : Aside0 (wr.heap[gb222]? = some (.cells #[u223000] 28 (0, 0))) := ⟨by rw [← hq_]; exact z8_8_⟩; have n3_ : Aside0 (Below w.heap.size w wr) := ⟨by rw [← hq_]; exact z8_4_⟩; clear HO_223000 BK218 BK222 HB hq_; have HO_223000 := n0_; have BK218 := n1_; have BK222 := n2_; have HB := n3_; clear n0_ n1_ n2_ n3_))))
       replace HO_223000 := Aside0.mk (Kd.R_drew HO_223000.out)
       replace BK218 := Aside0.mk (blk_drew BK218.out)
       replace BK222 := Aside0.mk (blk_drew BK222.out)
       replace HB := Aside0.mk (below_drew1 HB.out)
       refine start_ (n := 10) (S := fun w' => w'.cell? ⟨gb222, 0, none⟩ = some (u223000)) (ds := [9]) #[false, false, false, false, false, false, false, false, false, false] (by kernel_rfl) rfl rfl ((blk_cell BK222.out 0).trans rfl) (fun hHeld => ?_); refine with_tabW spec_MakePuzzle.tab10 spec_MakePuzzle.bits10 (fun HT_ HW_ => ?_)
       generalize wr.drew = w21 at HO_223000 BK218 BK222 HB hHeld ⊢
       refine pq_ 0 37 ?_
       refine pq_ 2 39 ?_
       refine pq_ 3 40 ?_
       refine pq_ 4 41 ?_
       refine take_ (i := 1) (N := some 38) (v := ?_) (a' := ?_) #[true, true, true, true, true, false, false, false, false, false] rfl rfl (take_ofW HT_.out HW_.out (by kernel_rfl)) (fun _ _ _ h => h) (Or.inl ⟨by rfl, ?_⟩) hHeld ?_ ?_
       rotate_left
       · intro w' s0
         go_simp
         with_reducible rfl
       rotate_left
       · simp only [Act.put, List.setIfInBounds_toArray, List.set_cons_zero, List.set_cons_succ, i64_w, i32_w]
         rfl
       refine one_ (i := 5) (N := some 42) #[true, true, true, true, true, true, false, false, false, false] rfl rfl (one_of HT_.out (by kernel_rfl)) (by decide) (fun K hK => ?_)
       refine goes_ Tryz.func69 (by kernel_rfl) rfl #[.int .i64 (Int.tmod t223 5), .int .i64 t224, .string a0] (by rfl) rfl rfl z8_2_ ?_
       with_reducible refine (spec_pzOf.calls k2 (Int.tmod t223 5) t224 a0 t225 t226 t227 _ A19.out).mono ?_
       rintro e w22 ⟨rfl, hb⟩
       refine ⟨_, rfl, ?_⟩
       replace HO_223000 := Aside0.mk (Kd.R_below z8_9_ hb)
       replace BK218 := bb_ BK218 z8_5_ hb
       replace BK222 := bb_ BK222 z8_8_ hb
       replace HB := Aside0.mk (below_step z8_4_ hb)
       
       
       
       
       refine hK.out _ _ ((blk_cell BK222.out 0).trans rfl) (fun hHeld => ?_)
       clear hK K
       refine norm_ (a' := ?_) ?_ ?_
       rotate_left
       · show Act.put _ (some 42) _ = _
         simp only [Act.put, List.setIfInBounds_toArray, List.set_cons_zero, List.set_cons_succ, i64_w, i32_w]
         rfl
       refine one_ (i := 6) (N := some 43) #[true, true, true, true, true, true, true, false, false, false] rfl rfl (one_of HT_.out (by kernel_rfl)) (by decide) (fun K hK => ?_)
       refine value_ (w1 := ?_) (v := ?_) (by rfl) rfl ?_ ?_
       rotate_left 2
       · go_simp
         constructor
         · rfl
         rfl
       refine hK.out _ _ ((blk_cell (blk_alloc BK222.out _) 0).trans rfl) (fun hHeld => ?_)
       clear hK K
       refine norm_ (a' := ?_) ?_ ?_
       rotate_left
       · show Act.put _ (some 43) _ = _
         simp only [Act.put, List.setIfInBounds_toArray, List.set_cons_zero, List.set_cons_succ, i64_w, i32_w]
         rfl
       refine one_ (i := 7) (N := some 44) #[true, true, true, true, true, true, true, true, false, false] rfl rfl (one_of HT_.out (by kernel_rfl)) (by decide) (fun K hK => ?_)
       refine Kd.R_append_step k37 (w0 := w) w.heap.size (by rfl) (.tmp 38) (.tmp 43) 26 37 (.agg #[(.int .i64 0), (.int .i64 0), (.int .i64 0)]) 24 rfl Tryz.underlying26 info37 rfl (by decide) (by omega) u223000 x223000_2 (⟨t225, t226, t227⟩ : S37) [.int .i64 t225, .int .i64 t226, .int .i64 t227] (fun _ => True) (fun _ => False) rfl rfl ?aP (fun _ hk => hk.elim) ?aF ?aO ?aB ?aS ?aL ?_
       (case aP => exact k37_mkM _ _ _ (⟨t225, t226, t227⟩ : S37))
       (case aB => exact z8_4_)
       (case aF => exact (fun _ _ => trivial))
       (case aO => exact z8_9_)
       (case aS => exact (below_size z8_4_))
       (case aL => have := LMc20.out; omega)
       intro v229 w23 ho hb hg hat
       rw [← Ny228.out] at ho
       replace BK218 := Aside0.mk (blk_grown (g := gb218) (o := .cells #[.slice none 0 0] 28 (0, 0)) z8_5_ hg (Kd.R_ne HO_223000.out BK218.out (by decide)))
       replace BK222 := Aside0.mk (blk_grown (g := gb222) (o := .cells #[u223000] 28 (0, 0)) z8_8_ hg (Kd.R_ne HO_223000.out BK222.out (by decide)))
       replace HB := Aside0.mk (hb)
       have HO230 := Aside0.mk (ho)
       clear HO_223000
       clear ho hb hg hat
       obtain ⟨Ao24, co24, eo24⟩ := Kd.R_slice HO230.out
       (first | subst eo24 | (injection eo24 with f1_ f2_ f3_; have f4_ := f1_.symm; have f5_ := f3_.symm; clear f1_ f2_ f3_; subst f4_; subst f5_))
       refine hK.out _ _ ((blk_cell BK222.out 0).trans rfl) (fun hHeld => ?_)
       clear hK K
       refine norm_ (a' := ?_) ?_ ?_
       rotate_left
       · show Act.put _ (some 44) _ = _
         simp only [Act.put, List.setIfInBounds_toArray, List.set_cons_zero, List.set_cons_succ, i64_w, i32_w]
         rfl
       refine pq_ 8 45 ?_
       refine last_ (i := 9) (N := none) #[true, true, true, true, true, true, true, true, true, true] rfl rfl (one_of HT_.out (by kernel_rfl)) (by decide) (fun K hK => ?_)
       have hs25 : w23.cell? ⟨gb222, 0, none⟩ = some (u223000) := (blk_cell BK222.out 0).trans rfl
       have hfs25 := blk_frozen BK222.out 0
       have hns25_0 := NB218_222.out
       have hms25_0 := NB222_218.out
       refine skip_ (w1 := ?_) (by rfl) rfl ?_ ?_
       rotate_left
       · go_simp
         rfl
       refine hK.out _ _ ?_
       clear hK K
       refine done_ (done_of HT_.out (by kernel_rfl)) ?_
       try go_wp2
       go_roundg k2
       case measure => have := HJ3.out; have := HK2.out; omega
       case rel => exact ⟨(wrap64 (x1_2 - 1)), (t224), (y228), (.slice Ao24 y228.length co24), zV_, zV_, H', ⟨by have := HJ3.out; have := HK2.out; omega⟩, ⟨by refine rr_ ?_; exact Kd.R_mono (Kd.R_far (p := ⟨gb222, 0, none⟩) (Kd.R_types HO230.out BK222.out (by decide)) (fun _ hk => hk.2) (.slice Ao24 y228.length co24)) (fun _ hk => trivial)⟩, ⟨by refine b_ ?_; refine blk_far ?_ NB218_222.out _; exact b_ BK218.out⟩, ⟨by refine b_ ?_; refine blk_put (cs := #[u223000]) ?_ 0 _ rfl; exact b_ BK222.out⟩, ⟨by repeat (first | (with_reducible first | exact HB.out | apply below_alloc | apply pw_below_drewN | apply below_drew1 | refine below_set ?_ GE218.out | refine below_set ?_ GE222.out) | exact HB.out)⟩⟩
     rw [if_neg c16] at H
     have c16b0 : decide (0 < x1_2) = false := decide_eq_false c16
     clear c16
     simp only [Option.some.injEq, Prod.mk.injEq] at H
     obtain ⟨rfl, rfl⟩ := H
     have hnb26 := NB222_218.out
     have hnc26 := NB218_222.out
     have hcz27_0 : wr.cell? ⟨gb222, 0, none⟩ = some (u223000) := (blk_cell BK222.out 0).trans rfl
     have hfz27_0 := blk_frozen BK222.out 0
     obtain ⟨Ao28, co28, eo28⟩ := Kd.R_slice HO_223000.out
     subst eo28
     have hcz29_0 : wr.cell? ⟨gb218, 0, none⟩ = some (.slice none 0 0) := (blk_cell BK218.out 0).trans rfl
     have hfz29_0 := blk_frozen BK218.out 0
     go_wp2
     refine bodyPost_ret (results_ct rfl _ _ gb218 28 #[.slice Ao28 x223000_2.length co28] (0, 0) _ rfl z8_6_ Tryz.underlying28 rfl (by kernel_rfl)) rfl ?_
     exact ⟨_, by first | rfl | (simp [errW_none, errW_some] <;> rfl) | (simp [*, errW_none, errW_some] <;> rfl), by refine rr_ ?_; exact Kd.R_mono (Kd.R_far (p := ⟨gb218, 0, none⟩) (Kd.R_types HO_223000.out BK218.out (by decide)) (fun _ hk => hk.2) (.slice Ao28 x223000_2.length co28)) (fun _ hk => trivial), by repeat (first | (with_reducible first | exact HB.out | apply below_alloc | apply pw_below_drewN | apply below_drew1 | refine below_set ?_ GE218.out | refine below_set ?_ GE222.out) | exact HB.out)⟩

/-! ### laws_iPuzzle: function 9 -/
def laws_iPuzzle.l0 : Nat → Int → Int → List (S37) → List (S37) → Option (Bool)
 | 0, _, _, _, _ => none
 | k + 1, x15, x16, x232000, x233000 => if x16 < x15 then (if 0 ≤ x16 then (if x16 < (x232000.length : Int) then (if x16 < (x233000.length : Int) then (if (!(((rd_T37 x232000 x16).f0) == ((rd_T37 x233000 x16).f0)) || (!(((rd_T37 x232000 x16).f1) == ((rd_T37 x233000 x16).f1)) || (!(((rd_T37 x232000 x16).f2) == ((rd_T37 x233000 x16).f2))))) = true then (some false) else (laws_iPuzzle.l0 k x15 (wrap64 (x16 + 1)) x232000 x233000)) else (none)) else (none)) else (none)) else (some true)
def laws_iPuzzle.f (k : Nat) (l0_0 : List (S37)) (l1_0 : List (S37)) : Option (Bool) := if (l0_0.length : Int) = (l1_0.length : Int) then (laws_iPuzzle.l0 k (l0_0.length : Int) 0 l0_0 l1_0) else (some false)
theorem laws_iPuzzle.mono_l : ∀ k, (∀ y0 y1 y2 y3, LeO (laws_iPuzzle.l0 k y0 y1 y2 y3) (laws_iPuzzle.l0 (k + 1) y0 y1 y2 y3))
 | 0 => fun _ _ _ _ r h => by simp [laws_iPuzzle.l0] at h
 | k + 1 => by
  have ih0 := laws_iPuzzle.mono_l k
  intro y0 y1 y2 y3
  unfold laws_iPuzzle.l0
  repeat' first
  | (with_reducible exact ih0 _ _ _ _)
  | (with_reducible exact LeO.refl _)
  | (with_reducible exact LeO.none _)
  | (with_reducible refine LeO.ite ?_ ?_)
  | (with_reducible refine LeO.bind ?_ (fun _ => ?_))
  | exact LeO.none _
  | refine LeO.ite ?_ ?_
  | refine LeO.bind ?_ (fun _ => ?_)
theorem laws_iPuzzle.mono : ∀ a0 a1 k, LeO (laws_iPuzzle.f k a0 a1) (laws_iPuzzle.f (k + 1) a0 a1) := by
 intro a0 a1 k
 have ih0 := laws_iPuzzle.mono_l k
 unfold laws_iPuzzle.f
 repeat' first
  | (with_reducible exact ih0 _ _ _ _)
  | (with_reducible exact LeO.refl _)
  | (with_reducible exact LeO.none _)
  | (with_reducible refine LeO.ite ?_ ?_)
  | (with_reducible refine LeO.bind ?_ (fun _ => ?_))
  | exact LeO.none _
  | refine LeO.ite ?_ ?_
  | refine LeO.bind ?_ (fun _ => ?_)
set_option maxHeartbeats 8000000 in
set_option maxRecDepth 100000 in
theorem laws_iPuzzle.calls (k : Nat) (A0_0 : Option Addr) (c0_0 : Nat) (l0_0 : List (S37)) (A1_0 : Option Addr) (c1_0 : Nat) (l1_0 : List (S37)) (r : Bool) (w : World) (hr0_0 : Kd.C k37 w A0_0 l0_0.length l0_0) (hc0_0 : l0_0.length ≤ c0_0) (hr1_0 : Kd.C k37 w A1_0 l1_0.length l1_0) (hc1_0 : l1_0.length ≤ c1_0) (h : laws_iPuzzle.f k l0_0 l1_0 = some r) :
 Calls Tryz.prog 9 #[.agg #[.slice A0_0 l0_0.length c0_0], .agg #[.slice A1_0 l1_0.length c1_0]] w fun e w' => e = .returned (.bool r) ∧ Below w.heap.size w w' := by
 have hu28 := Tryz.underlying28
 have hu37 := Tryz.underlying37
 have HR0_0 := Aside0.mk hr0_0
 have HC0_0 := Aside0.mk hc0_0
 clear hr0_0 hc0_0
 have HR1_0 := Aside0.mk hr1_0
 have HC1_0 := Aside0.mk hc1_0
 clear hr1_0 hc1_0
 have HB := Aside0.mk (Below.refl w.heap.size w)
 unfold laws_iPuzzle.f at h
 have H := h
 clear h
 by_cases c3 : (l0_0.length : Int) = (l1_0.length : Int)
 · obtain ⟨H, c3b0, c3b1⟩ := ep_ c3 H
   have c3b2 : (l0_0.length == l1_0.length) = true := by first | simpa using c3 | (simp at c3 ⊢; omega)
   clear c3
   have H' := Aside0.mk H
   clear H
   go_enter Tryz.func9, Tryz.ntmps9
   go_wp2_with (first | (refine bx_ 2 #[.slice A0_0 l0_0.length c0_0] 28 ?_; intro gb231 hg w4 hbox hb; have BK231 := Aside0.mk (hbox); have GW231 : Aside0 (w.heap.size ≤ gb231) := bs_ hg zB_; have GE231 := GW231; replace HB := Aside0.mk (below_step zB_ hb); clear hb hbox hg) | (refine bx_ 3 #[.slice A1_0 l1_0.length c1_0] 28 ?_; intro gb232 hg w5 hbox hb; have BK232 := Aside0.mk (hbox); have GW232 : Aside0 (w.heap.size ≤ gb232) := bs_ hg z8_1_; have GE232 := GW232; replace HB := Aside0.mk (below_step z8_1_ hb); have NB231_232 := nl_ BK231 z8_3_ hg; have NB232_231 := ns_ NB231_232; replace BK231 := bb_ BK231 z8_3_ hb; clear hb hbox hg; have hnb6 := NB231_232.out; have hnc6 := NB232_231.out; have hcz7_0 : w5.cell? ⟨gb231, 0, none⟩ = some (.slice A0_0 l0_0.length c0_0) := (blk_cell BK231.out 0).trans rfl; have hfz7_0 := blk_frozen BK231.out 0; have hcz8_0 : w5.cell? ⟨gb232, 0, none⟩ = some (.slice A1_0 l1_0.length c1_0) := (blk_cell BK232.out 0).trans rfl; have hfz8_0 := blk_frozen BK232.out 0))
   repeat (go_quiet (fail); try go_wp2_with (first | (refine bx_ 2 #[.slice A0_0 l0_0.length c0_0] 28 ?_; intro gb231 hg w4 hbox hb; have BK231 := Aside0.mk (hbox); have GW231 : Aside0 (w.heap.size ≤ gb231) := bs_ hg zB_; have GE231 := GW231; replace HB := Aside0.mk (below_step zB_ hb); clear hb hbox hg) | (refine bx_ 3 #[.slice A1_0 l1_0.length c1_0] 28 ?_; intro gb232 hg w5 hbox hb; have BK232 := Aside0.mk (hbox); have GW232 : Aside0 (w.heap.size ≤ gb232) := bs_ hg z8_1_; have GE232 := GW232; replace HB := Aside0.mk (below_step z8_1_ hb); have NB231_232 := nl_ BK231 z8_3_ hg; have NB232_231 := ns_ NB231_232; replace BK231 := bb_ BK231 z8_3_ hb; clear hb hbox hg; have hnb6 := NB231_232.out; have hnc6 := NB232_231.out; have hcz7_0 : w5.cell? ⟨gb231, 0, none⟩ = some (.slice A0_0 l0_0.length c0_0) := (blk_cell BK231.out 0).trans rfl; have hfz7_0 := blk_frozen BK231.out 0; have hcz8_0 : w5.cell? ⟨gb232, 0, none⟩ = some (.slice A1_0 l1_0.length c1_0) := (blk_cell BK232.out 0).trans rfl; have hfz8_0 := blk_frozen BK232.out 0)))
   go_loopg [16] k (fun kq v16 w' => ∃ (x16_1 : Int), v16 = .int .i64 x16_1 ∧ Aside0 (laws_iPuzzle.l0 kq (l0_0.length : Int) x16_1 l0_0 l1_0 = some r) ∧ Aside0 (kq ≤ k) ∧ Aside0 (w'.heap[gb231]? = some (.cells #[(.slice A0_0 l0_0.length c0_0)] 28 (0, 0))) ∧ Aside0 (w'.heap[gb232]? = some (.cells #[(.slice A1_0 l1_0.length c1_0)] 28 (0, 0))) ∧ Aside0 (Below w.heap.size w w'))
   case atStart => exact ⟨(0), zV_, H', ⟨Nat.le_refl _⟩, ⟨b_ BK231.out⟩, ⟨b_ BK232.out⟩, ⟨by repeat (first | (with_reducible first | exact HB.out | apply below_alloc | apply pw_below_drewN | apply below_drew1 | refine below_set ?_ GE231.out | refine below_set ?_ GE232.out) | exact HB.out)⟩⟩
   case round =>
    clear H'
    obtain ⟨x16_1, rfl, HA, HK1, BK231, BK232, HB⟩ := hrel
    cases gk with
    | zero => exact absurd HA.out (by simp [laws_iPuzzle.l0])
    | succ k1 =>
     have H := HA.out
     clear HA
     simp only [laws_iPuzzle.l0] at H
     by_cases c9 : x16_1 < (l0_0.length : Int)
     rotate_left
     · rw [if_neg c9] at H
       have c9b0 := decide_eq_false c9
       clear c9
       obtain rfl := Option.some.inj H
       go_wp2
       repeat (go_quiet (fail); try go_wp2)
       go_ret
       exact ⟨zR_, by repeat (first | (with_reducible first | exact HB.out | apply below_alloc | apply pw_below_drewN | apply below_drew1 | refine below_set ?_ GE231.out | refine below_set ?_ GE232.out) | exact HB.out)⟩
     rw [if_pos c9] at H
     have c9b0 := decide_eq_true c9
     clear c9
     replace H := gd_ H; obtain ⟨c10, H⟩ := H
     have c10b0 : decide (0 ≤ x16_1) = true := decide_eq_true c10
     clear c10
     replace H := gd_ H; obtain ⟨c11, H⟩ := H
     have c11b0 : decide (x16_1 < (l0_0.length : Int)) = true := decide_eq_true c11
     clear c11
     replace H := gd_ H; obtain ⟨c12, H⟩ := H
     have c12b0 : decide (x16_1 < (l1_0.length : Int)) = true := decide_eq_true c12
     clear c12
     by_cases c13 : (!(((rd_T37 l0_0 x16_1).f0) == ((rd_T37 l1_0 x16_1).f0)) || (!(((rd_T37 l0_0 x16_1).f1) == ((rd_T37 l1_0 x16_1).f1)) || (!(((rd_T37 l0_0 x16_1).f2) == ((rd_T37 l1_0 x16_1).f2))))) = true
     · rw [if_pos c13] at H
       have c13b0 : (!(((rd_T37 l0_0 x16_1).f0) == ((rd_T37 l1_0 x16_1).f0)) || (!(((rd_T37 l0_0 x16_1).f1) == ((rd_T37 l1_0 x16_1).f1)) || (!(((rd_T37 l0_0 x16_1).f2) == ((rd_T37 l1_0 x16_1).f2))))) = true := c13
       clear c13
       obtain rfl := Option.some.inj H
       have hnb14 := NB231_232.out
       have hnc14 := NB232_231.out
       have hcz15_0 : wr.cell? ⟨gb231, 0, none⟩ = some (.slice A0_0 l0_0.length c0_0) := (blk_cell BK231.out 0).trans rfl
       have hfz15_0 := blk_frozen BK231.out 0
       have p233 : 0 ≤ (x16_1 : Int) := of_decide_eq_true zS_
       have q233 : x16_1 < (l0_0.length : Int) := of_decide_eq_true zS_
       obtain ⟨ad233, e233, hx233_0, hx233_1, hx233_2⟩ := at_T37 HR0_0.out x16_1 p233 q233
       cases e233
       replace hx233_0 := (HB.out.cell (World.block_lt_of_cell? w _ hx233_0)).trans hx233_0
       replace hx233_1 := (HB.out.cell (World.block_lt_of_cell? w _ hx233_1)).trans hx233_1
       replace hx233_2 := (HB.out.cell (World.block_lt_of_cell? w _ hx233_2)).trans hx233_2
       replace p233 := eq_true p233
       replace q233 := eq_true q233
       have hcz16_0 : wr.cell? ⟨gb232, 0, none⟩ = some (.slice A1_0 l1_0.length c1_0) := (blk_cell BK232.out 0).trans rfl
       have hfz16_0 := blk_frozen BK232.out 0
       have p234 : 0 ≤ (x16_1 : Int) := of_decide_eq_true zS_
       have q234 : x16_1 < (l1_0.length : Int) := of_decide_eq_true zS_
       obtain ⟨ad234, e234, hx234_0, hx234_1, hx234_2⟩ := at_T37 HR1_0.out x16_1 p234 q234
       cases e234
       replace hx234_0 := (HB.out.cell (World.block_lt_of_cell? w _ hx234_0)).trans hx234_0
       replace hx234_1 := (HB.out.cell (World.block_lt_of_cell? w _ hx234_1)).trans hx234_1
       replace hx234_2 := (HB.out.cell (World.block_lt_of_cell? w _ hx234_2)).trans hx234_2
       replace p234 := eq_true p234
       replace q234 := eq_true q234
       go_wp2
       repeat (go_quiet (fail); try go_wp2)
       go_ret
       exact ⟨zR_, by repeat (first | (with_reducible first | exact HB.out | apply below_alloc | apply pw_below_drewN | apply below_drew1 | refine below_set ?_ GE231.out | refine below_set ?_ GE232.out) | exact HB.out)⟩
     rw [if_neg c13] at H
     have c13b0 : (!(((rd_T37 l0_0 x16_1).f0) == ((rd_T37 l1_0 x16_1).f0)) || (!(((rd_T37 l0_0 x16_1).f1) == ((rd_T37 l1_0 x16_1).f1)) || (!(((rd_T37 l0_0 x16_1).f2) == ((rd_T37 l1_0 x16_1).f2))))) = false := by simpa using c13
     clear c13
     have H' := Aside0.mk H
     clear H
     have hnb17 := NB231_232.out
     have hnc17 := NB232_231.out
     have hcz18_0 : wr.cell? ⟨gb231, 0, none⟩ = some (.slice A0_0 l0_0.length c0_0) := (blk_cell BK231.out 0).trans rfl
     have hfz18_0 := blk_frozen BK231.out 0
     have p233 : 0 ≤ (x16_1 : Int) := of_decide_eq_true zS_
     have q233 : x16_1 < (l0_0.length : Int) := of_decide_eq_true zS_
     obtain ⟨ad233, e233, hx233_0, hx233_1, hx233_2⟩ := at_T37 HR0_0.out x16_1 p233 q233
     cases e233
     replace hx233_0 := (HB.out.cell (World.block_lt_of_cell? w _ hx233_0)).trans hx233_0
     replace hx233_1 := (HB.out.cell (World.block_lt_of_cell? w _ hx233_1)).trans hx233_1
     replace hx233_2 := (HB.out.cell (World.block_lt_of_cell? w _ hx233_2)).trans hx233_2
     replace p233 := eq_true p233
     replace q233 := eq_true q233
     have hcz19_0 : wr.cell? ⟨gb232, 0, none⟩ = some (.slice A1_0 l1_0.length c1_0) := (blk_cell BK232.out 0).trans rfl
     have hfz19_0 := blk_frozen BK232.out 0
     have p234 : 0 ≤ (x16_1 : Int) := of_decide_eq_true zS_
     have q234 : x16_1 < (l1_0.length : Int) := of_decide_eq_true zS_
     obtain ⟨ad234, e234, hx234_0, hx234_1, hx234_2⟩ := at_T37 HR1_0.out x16_1 p234 q234
     cases e234
     replace hx234_0 := (HB.out.cell (World.block_lt_of_cell? w _ hx234_0)).trans hx234_0
     replace hx234_1 := (HB.out.cell (World.block_lt_of_cell? w _ hx234_1)).trans hx234_1
     replace hx234_2 := (HB.out.cell (World.block_lt_of_cell? w _ hx234_2)).trans hx234_2
     replace p234 := eq_true p234
     replace q234 := eq_true q234
     go_wp2
     repeat (go_quiet (fail); try go_wp2)
     go_roundg k1
     case measure => have := HK1.out; omega
     case rel => exact ⟨(wrap64 (x16_1 + 1)), zV_, H', ⟨by have := HK1.out; omega⟩, ⟨b_ BK231.out⟩, ⟨b_ BK232.out⟩, ⟨by repeat (first | (with_reducible first | exact HB.out | apply below_alloc | apply pw_below_drewN | apply below_drew1 | refine below_set ?_ GE231.out | refine below_set ?_ GE232.out) | exact HB.out)⟩⟩
 obtain ⟨H, c3b0, c3b1⟩ := en_ c3 H
 have c3b2 : (l0_0.length == l1_0.length) = false := by first | simpa using c3 | (simp at c3 ⊢; omega)
 obtain rfl := Option.some.inj H
 go_enter Tryz.func9, Tryz.ntmps9
 go_wp2_with (first | (refine bx_ 2 #[.slice A0_0 l0_0.length c0_0] 28 ?_; intro gb231 hg w20 hbox hb; have BK231 := Aside0.mk (hbox); have GW231 : Aside0 (w.heap.size ≤ gb231) := bs_ hg zB_; have GE231 := GW231; replace HB := Aside0.mk (below_step zB_ hb); clear hb hbox hg) | (refine bx_ 3 #[.slice A1_0 l1_0.length c1_0] 28 ?_; intro gb232 hg w21 hbox hb; have BK232 := Aside0.mk (hbox); have GW232 : Aside0 (w.heap.size ≤ gb232) := bs_ hg z8_1_; have GE232 := GW232; replace HB := Aside0.mk (below_step z8_1_ hb); have NB231_232 := nl_ BK231 z8_3_ hg; have NB232_231 := ns_ NB231_232; replace BK231 := bb_ BK231 z8_3_ hb; clear hb hbox hg; have hnb22 := NB231_232.out; have hnc22 := NB232_231.out; have hcz23_0 : w21.cell? ⟨gb231, 0, none⟩ = some (.slice A0_0 l0_0.length c0_0) := (blk_cell BK231.out 0).trans rfl; have hfz23_0 := blk_frozen BK231.out 0; have hcz24_0 : w21.cell? ⟨gb232, 0, none⟩ = some (.slice A1_0 l1_0.length c1_0) := (blk_cell BK232.out 0).trans rfl; have hfz24_0 := blk_frozen BK232.out 0))
 repeat (go_quiet (fail); try go_wp2_with (first | (refine bx_ 2 #[.slice A0_0 l0_0.length c0_0] 28 ?_; intro gb231 hg w20 hbox hb; have BK231 := Aside0.mk (hbox); have GW231 : Aside0 (w.heap.size ≤ gb231) := bs_ hg zB_; have GE231 := GW231; replace HB := Aside0.mk (below_step zB_ hb); clear hb hbox hg) | (refine bx_ 3 #[.slice A1_0 l1_0.length c1_0] 28 ?_; intro gb232 hg w21 hbox hb; have BK232 := Aside0.mk (hbox); have GW232 : Aside0 (w.heap.size ≤ gb232) := bs_ hg z8_1_; have GE232 := GW232; replace HB := Aside0.mk (below_step z8_1_ hb); have NB231_232 := nl_ BK231 z8_3_ hg; have NB232_231 := ns_ NB231_232; replace BK231 := bb_ BK231 z8_3_ hb; clear hb hbox hg; have hnb22 := NB231_232.out; have hnc22 := NB232_231.out; have hcz23_0 : w21.cell? ⟨gb231, 0, none⟩ = some (.slice A0_0 l0_0.length c0_0) := (blk_cell BK231.out 0).trans rfl; have hfz23_0 := blk_frozen BK231.out 0; have hcz24_0 : w21.cell? ⟨gb232, 0, none⟩ = some (.slice A1_0 l1_0.length c1_0) := (blk_cell BK232.out 0).trans rfl; have hfz24_0 := blk_frozen BK232.out 0)))
 go_ret
 exact ⟨zR_, by repeat (first | (with_reducible first | exact HB.out | apply below_alloc | apply pw_below_drewN | apply below_drew1 | refine below_set ?_ GE231.out | refine below_set ?_ GE232.out) | exact HB.out)⟩

/-! ### impl_IsTicket: function 52 -/
def impl_IsTicket.f (k : Nat) (a0 : ByteArray) : Option (Bool) := (impl_areDigits.f k a0 2 12).bind fun t235 => (if t235 = true then (some (((a0.size : Int) % 2) == 0)) else (some false))
theorem impl_IsTicket.mono : ∀ a0 k, LeO (impl_IsTicket.f k a0) (impl_IsTicket.f (k + 1) a0) := by
 intro a0 k
 unfold impl_IsTicket.f
 have m1_ := @impl_areDigits.mono
 exact zM_
set_option maxHeartbeats 8000000 in
set_option maxRecDepth 100000 in
theorem impl_IsTicket.calls (k : Nat) (a0 : ByteArray) (r : Bool) (w : World) (h : impl_IsTicket.f k a0 = some r) :
 Calls Tryz.prog 52 #[.string a0] w fun e w' => e = .returned (.bool r) ∧ Drawn0 w w' := by
 unfold impl_IsTicket.f at h
 have H := h
 clear h
 replace H := bd_ H; obtain ⟨t235, A2, H⟩ := H
 by_cases c3 : t235 = true
 · subst c3
   rw [if_pos rfl] at H
   obtain rfl := Option.some.inj H
   go_enter Tryz.func52, Tryz.ntmps52
   go_wp2_with (first | ((with_reducible refine gc_ 91 rfl ?_); refine gL_ 4 Tryz.func91 #[.string a0, .int .i64 2, .int .i64 12] ?_; (with_reducible refine (impl_areDigits.calls k a0 2 12 true _ A2.out).mono ?_); rintro e w' ⟨rfl, ⟨nd, rfl⟩⟩; refine ⟨_, rfl, ?_⟩))
   go_ret
   exact ⟨by first | rfl | (simp; done) | (simp [*]; done), by repeat (first | exact Drawn0.refl _ | apply Drawn0.step)⟩
 replace H := bf_ c3 H; obtain ⟨rfl, H⟩ := H
 obtain rfl := Option.some.inj H
 go_enter Tryz.func52, Tryz.ntmps52
 go_wp2_with (first | ((with_reducible refine gc_ 91 rfl ?_); refine gL_ 4 Tryz.func91 #[.string a0, .int .i64 2, .int .i64 12] ?_; (with_reducible refine (impl_areDigits.calls k a0 2 12 false _ A2.out).mono ?_); rintro e w' ⟨rfl, ⟨nd, rfl⟩⟩; refine ⟨_, rfl, ?_⟩))
 go_ret
 exact ⟨by first | rfl | (simp; done) | (simp [*]; done), by repeat (first | exact Drawn0.refl _ | apply Drawn0.step)⟩

/-! ### impl_HalfSums: function 10 -/
def impl_HalfSums.f (k : Nat) (a0 : ByteArray) : Option (Int × Int × Bool) := (impl_IsTicket.f k a0).bind fun t236 => (if t236 = true then ((impl_halves.f a0).bind fun bt237 => ((impl_sumOf.f k bt237.1).bind fun t239 => ((impl_sumOf.f k bt237.2).bind fun t240 => (some (t239, t240, true))))) else (some (0, 0, false)))
theorem impl_HalfSums.mono : ∀ a0 k, LeO (impl_HalfSums.f k a0) (impl_HalfSums.f (k + 1) a0) := by
 intro a0 k
 unfold impl_HalfSums.f
 have m1_ := @impl_IsTicket.mono
 have m2_ := @impl_sumOf.mono
 exact zM_
set_option maxHeartbeats 8000000 in
set_option maxRecDepth 100000 in
theorem impl_HalfSums.calls (k : Nat) (a0 : ByteArray) (r1 : Int) (r2 : Int) (r3 : Bool) (w : World) (h : impl_HalfSums.f k a0 = some (r1, r2, r3)) :
 Calls Tryz.prog 10 #[.string a0] w fun e w' => e = .returned (.tuple #[.int .i64 r1, .int .i64 r2, .bool r3]) ∧ Drawn0 w w' := by
 unfold impl_HalfSums.f at h
 have H := h
 clear h
 replace H := bd_ H; obtain ⟨t236, A2, H⟩ := H
 by_cases c3 : t236 = true
 · subst c3
   rw [if_pos rfl] at H
   replace H := bd_ H; obtain ⟨⟨t237, t238⟩, A4, H⟩ := H
   dsimp only at H
   replace H := bd_ H; obtain ⟨t239, A5, H⟩ := H
   replace H := bd_ H; obtain ⟨t240, A6, H⟩ := H
   simp only [Option.some.injEq, Prod.mk.injEq] at H
   obtain ⟨rfl, rfl, rfl⟩ := H
   go_enter Tryz.func10, Tryz.ntmps10
   go_wp2_with (first | ((with_reducible refine gc_ 52 rfl ?_); refine gL_ 8 Tryz.func52 #[.string a0] ?_; (with_reducible refine (impl_IsTicket.calls k a0 true _ A2.out).mono ?_); rintro e w' ⟨rfl, ⟨nd, rfl⟩⟩; refine ⟨_, rfl, ?_⟩) | ((with_reducible refine gc_ 70 rfl ?_); refine gL_ 12 Tryz.func70 #[.string a0] ?_; (with_reducible refine (impl_halves.calls a0 t237 t238 _ A4.out).mono ?_); rintro e w' ⟨rfl, ⟨nd, rfl⟩⟩; refine ⟨_, rfl, ?_⟩) | ((with_reducible refine gc_ 71 rfl ?_); refine gL_ 16 Tryz.func71 #[.string t237] ?_; (with_reducible refine (impl_sumOf.calls k t237 t239 _ A5.out).mono ?_); rintro e w' ⟨rfl, ⟨nd, rfl⟩⟩; refine ⟨_, rfl, ?_⟩) | ((with_reducible refine gc_ 71 rfl ?_); refine gL_ 18 Tryz.func71 #[.string t238] ?_; (with_reducible refine (impl_sumOf.calls k t238 t240 _ A6.out).mono ?_); rintro e w' ⟨rfl, ⟨nd, rfl⟩⟩; refine ⟨_, rfl, ?_⟩))
   go_ret3
   exact ⟨by first | rfl | (simp; done) | (simp [*]; done), by repeat (first | exact Drawn0.refl _ | apply Drawn0.step)⟩
 replace H := bf_ c3 H; obtain ⟨rfl, H⟩ := H
 simp only [Option.some.injEq, Prod.mk.injEq] at H
 obtain ⟨rfl, rfl, rfl⟩ := H
 go_enter Tryz.func10, Tryz.ntmps10
 go_wp2_with (first | ((with_reducible refine gc_ 52 rfl ?_); refine gL_ 8 Tryz.func52 #[.string a0] ?_; (with_reducible refine (impl_IsTicket.calls k a0 false _ A2.out).mono ?_); rintro e w' ⟨rfl, ⟨nd, rfl⟩⟩; refine ⟨_, rfl, ?_⟩))
 go_ret3
 exact ⟨by first | rfl | (simp; done) | (simp [*]; done), by repeat (first | exact Drawn0.refl _ | apply Drawn0.step)⟩

theorem z9_1_ {p : Prop} (h : p := by (try simp only [List.map_toArray, List.map_cons, List.map_nil]); first | done | rfl | (simp only [List.length_drop, List.length_take]; rfl)) : p := h
theorem z9_2_ {p : Prop} (h : p := by repeat (first | (with_reducible first | exact HB.out | apply below_alloc | apply pw_below_drewN | apply below_drew1 | refine below_set ?_ GE256.out) | exact HB.out)) : p := h
theorem z9_3_ {p : Prop} (h : p := by exact b_ BK256.out) : p := h

/-! ### impl_IsClue: function 31 -/
def impl_IsClue.j0 : Nat → Int → Int → Int → Int → Bool → Int → Int → Int → Option (Bool)
 | 0, _, _, _, _, _, _, _, _ => none
 | k + 1, x3, x4, x5, x16, x17, x242000, x242001, x242002 => if x17 = true then ((impl_within.f x242001 0 x3).bind fun t247 => (if t247 = true then ((impl_within.f x242002 x4 1).bind fun t248 => (some t248)) else (some false))) else (if x16 = 5 then ((impl_within.f x242001 0 x3).bind fun t249 => (if t249 = true then ((impl_within.f x242002 2 9).bind fun t250 => (some t250)) else (some false))) else ((impl_within.f x242001 0 x3).bind fun t251 => (if t251 = true then ((impl_within.f x242002 x4 x5).bind fun t252 => (some t252)) else (some false))))
def impl_IsClue.f (k : Nat) (a0_0 : Int) (a0_1 : Int) (a0_2 : Int) : Option (Bool) := (impl_within.f a0_0 0 5).bind fun t242 => (if t242 = true then ((some (([1, 3, 0, 2, 0, 0] : List Int) : List Int)).bind fun y243 => (if 0 ≤ a0_0 then (if a0_0 < (y243.length : Int) then (if a0_0 = 2 then (impl_IsClue.j0 k (rd y243 a0_0) 0 20 a0_0 (a0_0 == 2) a0_0 a0_1 a0_2) else (impl_IsClue.j0 k (rd y243 a0_0) 0 20 a0_0 (a0_0 == 3) a0_0 a0_1 a0_2)) else (none)) else (none))) else (some false))
theorem impl_IsClue.mono_l : ∀ k, (∀ y0 y1 y2 y3 y4 y5 y6 y7, LeO (impl_IsClue.j0 k y0 y1 y2 y3 y4 y5 y6 y7) (impl_IsClue.j0 (k + 1) y0 y1 y2 y3 y4 y5 y6 y7))
 | 0 => fun _ _ _ _ _ _ _ _ r h => by simp [impl_IsClue.j0] at h
 | k + 1 => by
  have ih0 := impl_IsClue.mono_l k
  intro y0 y1 y2 y3 y4 y5 y6 y7
  unfold impl_IsClue.j0
  repeat' first
  | (with_reducible exact ih0 _ _ _ _ _ _ _ _)
  | (with_reducible exact LeO.refl _)
  | (with_reducible exact LeO.none _)
  | (with_reducible refine LeO.ite ?_ ?_)
  | (with_reducible refine LeO.bind ?_ (fun _ => ?_))
  | exact LeO.none _
  | refine LeO.ite ?_ ?_
  | refine LeO.bind ?_ (fun _ => ?_)
theorem impl_IsClue.mono : ∀ a0 a1 a2 k, LeO (impl_IsClue.f k a0 a1 a2) (impl_IsClue.f (k + 1) a0 a1 a2) := by
 intro a0 a1 a2 k
 have ih0 := impl_IsClue.mono_l k
 unfold impl_IsClue.f
 repeat' first
  | (with_reducible exact ih0 _ _ _ _ _ _ _ _)
  | (with_reducible exact LeO.refl _)
  | (with_reducible exact LeO.none _)
  | (with_reducible refine LeO.ite ?_ ?_)
  | (with_reducible refine LeO.bind ?_ (fun _ => ?_))
  | exact LeO.none _
  | refine LeO.ite ?_ ?_
  | refine LeO.bind ?_ (fun _ => ?_)
set_option maxHeartbeats 8000000 in
set_option maxRecDepth 100000 in
theorem impl_IsClue.calls (k : Nat) (a0_0 : Int) (a0_1 : Int) (a0_2 : Int) (r : Bool) (w : World) (h : impl_IsClue.f k a0_0 a0_1 a0_2 = some r) :
 Calls Tryz.prog 31 #[.agg #[.int .i64 a0_0, .int .i64 a0_1, .int .i64 a0_2]] w fun e w' => e = .returned (.bool r) ∧ Below w.heap.size w w' := by
 have hu37 := Tryz.underlying37
 have HB := Aside0.mk (Below.refl w.heap.size w)
 unfold impl_IsClue.f at h
 have H := h
 clear h
 replace H := bd_ H; obtain ⟨t242, A2, H⟩ := H
 by_cases c3 : t242 = true
 rotate_left
 · replace H := bf_ c3 H; obtain ⟨rfl, H⟩ := H
   obtain rfl := Option.some.inj H
   go_enter Tryz.func31, Tryz.ntmps31
   go_wp2_with (first | (refine bx_ 1 #[.int .i64 a0_0, .int .i64 a0_1, .int .i64 a0_2] 37 ?_; intro gb241 hg w31 hbox hb; have BK241 := Aside0.mk (hbox); have GW241 : Aside0 (w.heap.size ≤ gb241) := bs_ hg zB_; have GE241 := GW241; replace HB := Aside0.mk (below_step zB_ hb); clear hb hbox hg; have hcz32_0 : w31.cell? ⟨gb241, 0, none⟩ = some (.int .i64 a0_0) := (blk_cell BK241.out 0).trans rfl; have hcz32_1 : w31.cell? ⟨gb241, 1, none⟩ = some (.int .i64 a0_1) := (blk_cell BK241.out 1).trans rfl; have hcz32_2 : w31.cell? ⟨gb241, 2, none⟩ = some (.int .i64 a0_2) := (blk_cell BK241.out 2).trans rfl; have hfz32_0 := blk_frozen BK241.out 0; have hfz32_1 := blk_frozen BK241.out 1; have hfz32_2 := blk_frozen BK241.out 2) | ((with_reducible refine gc_ 63 rfl ?_); refine gL_ 8 Tryz.func63 #[.int .i64 a0_0, .int .i64 0, .int .i64 5] ?_; (with_reducible refine (impl_within.calls a0_0 0 5 false _ A2.out).mono ?_); rintro e w' ⟨rfl, ⟨nd, rfl⟩⟩; refine ⟨_, rfl, ?_⟩))
   go_ret
   exact ⟨zR_, by repeat (first | (with_reducible first | exact HB.out | apply below_alloc | apply pw_below_drewN | apply below_drew1 | refine below_set ?_ GE241.out) | exact HB.out)⟩
 subst c3
 rw [if_pos rfl] at H
 obtain ⟨y243, hy243⟩ : ∃ y_ : List Int, y_ = (([1, 3, 0, 2, 0, 0] : List Int)) := ⟨_, rfl⟩
 replace H : (if 0 ≤ a0_0 then (if a0_0 < (y243.length : Int) then (if a0_0 = 2 then (impl_IsClue.j0 k (rd y243 a0_0) 0 20 a0_0 (a0_0 == 2) a0_0 a0_1 a0_2) else (impl_IsClue.j0 k (rd y243 a0_0) 0 20 a0_0 (a0_0 == 3) a0_0 a0_1 a0_2)) else (none)) else (none)) = some r := by first | (rw [hy243]; with_reducible exact H) | (have H2_ := (Option.bind_some _ _).symm.trans H; rw [hy243]; with_reducible exact H2_) | (have H2_ := (Option.bind_some _ _).symm.trans H; with_reducible exact H2_) | with_reducible exact H | (rw [hy243]; exact H) | exact H
 have Ny243 := Aside0.mk hy243
 clear hy243
 replace H := gd_ H; obtain ⟨c4, H⟩ := H
 have c4b0 : decide (0 ≤ a0_0) = true := decide_eq_true c4
 clear c4
 replace H := gd_ H; obtain ⟨c5, H⟩ := H
 have c5b0 : decide (a0_0 < (y243.length : Int)) = true := decide_eq_true c5
 clear c5
 have HC6 := Aside0.mk H
 clear H
 go_enter Tryz.func31, Tryz.ntmps31
 go_upto_if 17 with (first | (refine bx_ 1 #[.int .i64 a0_0, .int .i64 a0_1, .int .i64 a0_2] 37 ?_; intro gb241 hg w7 hbox hb; have BK241 := Aside0.mk (hbox); have GW241 : Aside0 (w.heap.size ≤ gb241) := bs_ hg zB_; have GE241 := GW241; replace HB := Aside0.mk (below_step zB_ hb); clear hb hbox hg; have hcz8_0 : w7.cell? ⟨gb241, 0, none⟩ = some (.int .i64 a0_0) := (blk_cell BK241.out 0).trans rfl; have hcz8_1 : w7.cell? ⟨gb241, 1, none⟩ = some (.int .i64 a0_1) := (blk_cell BK241.out 1).trans rfl; have hcz8_2 : w7.cell? ⟨gb241, 2, none⟩ = some (.int .i64 a0_2) := (blk_cell BK241.out 2).trans rfl; have hfz8_0 := blk_frozen BK241.out 0; have hfz8_1 := blk_frozen BK241.out 1; have hfz8_2 := blk_frozen BK241.out 2) | ((with_reducible refine gc_ 63 rfl ?_); refine gL_ 8 Tryz.func63 #[.int .i64 a0_0, .int .i64 0, .int .i64 5] ?_; (with_reducible refine (impl_within.calls a0_0 0 5 true _ A2.out).mono ?_); rintro e w' ⟨rfl, ⟨nd, rfl⟩⟩; refine ⟨_, rfl, ?_⟩) | ((with_reducible refine gate_dst (N := 10) rfl ?_); refine Kd.R_lit (Kd.int .i64) _ 3 ?hg (N := 10) ?hd (xs := ([1, 3, 0, 2, 0, 0] : List Int)) (inner := [.int .i64 1, .int .i64 3, .int .i64 0, .int .i64 2, .int .i64 0, .int .i64 0]) (ok := fun _ => True) (okp := fun _ => True) ?hr ?hp (fun _ hk => hk) trivial (Below.refl _ _) (Nat.le_refl _) (by simp) ?_; (case hd => rfl); (case hg => rfl); (case hr => first | (go_simp; done) | (go_simp; rfl)); (case hp => exact (Reps.one (show Kd.M (Kd.int .i64) _ _ _ 1 [.int .i64 1] from rfl) (Reps.one (show Kd.M (Kd.int .i64) _ _ _ 3 [.int .i64 3] from rfl) (Reps.one (show Kd.M (Kd.int .i64) _ _ _ 0 [.int .i64 0] from rfl) (Reps.one (show Kd.M (Kd.int .i64) _ _ _ 2 [.int .i64 2] from rfl) (Reps.one (show Kd.M (Kd.int .i64) _ _ _ 0 [.int .i64 0] from rfl) (Reps.one (show Kd.M (Kd.int .i64) _ _ _ 0 [.int .i64 0] from rfl) (Reps.none _ _)))))))); intro v244 w9 ho10 hb hg_ hnew_; clear hg_ hnew_; (first | rw [← Ny243.out] at ho10 | (simp only [Int.reduceToNat] at ho10; rw [← Ny243.out] at ho10)); have HO245 := Aside0.mk (Kd.R_lower ho10 (below_size (by repeat (first | (with_reducible first | exact HB.out | apply below_alloc | apply pw_below_drewN | apply below_drew1 | refine below_set ?_ GE241.out) | exact HB.out)))); replace BK241 := bb_ BK241 (b_ BK241.out) hb; replace HB := Aside0.mk (below_step (by repeat (first | (with_reducible first | exact HB.out | apply below_alloc | apply pw_below_drewN | apply below_drew1 | refine below_set ?_ GE241.out) | exact HB.out)) hb); clear hb ho10; have hcz11_0 : w9.cell? ⟨gb241, 0, none⟩ = some (.int .i64 a0_0) := (blk_cell BK241.out 0).trans rfl; have hcz11_1 : w9.cell? ⟨gb241, 1, none⟩ = some (.int .i64 a0_1) := (blk_cell BK241.out 1).trans rfl; have hcz11_2 : w9.cell? ⟨gb241, 2, none⟩ = some (.int .i64 a0_2) := (blk_cell BK241.out 2).trans rfl; have hfz11_0 := blk_frozen BK241.out 0; have hfz11_1 := blk_frozen BK241.out 1; have hfz11_2 := blk_frozen BK241.out 2; obtain ⟨Ao12, co12, eo12⟩ := Kd.R_slice HO245.out; subst eo12; have p246 : 0 ≤ (a0_0 : Int) := of_decide_eq_true zS_; have q246 : a0_0 < (y243.length : Int) := of_decide_eq_true zS_; obtain ⟨ad246, e246, hx246_0⟩ := Kd.at_int (Kd.R_reads' HO245.out).2.2 a0_0 p246 q246; cases e246; replace p246 := eq_true p246; replace q246 := eq_true q246))
 (try simp only [Act.put, List.setIfInBounds_toArray, List.set_cons_zero, List.set_cons_succ])
 go_cut [17] (fun v17 wc => ∃ (kq : Nat) (x17_5 : Bool), v17 = .bool x17_5 ∧ Aside0 (impl_IsClue.j0 kq (rd y243 a0_0) 0 20 a0_0 x17_5 a0_0 a0_1 a0_2 = some r) ∧ Aside0 (kq ≤ k) ∧ Aside0 (wc.heap[gb241]? = some (.cells #[.int .i64 a0_0, .int .i64 a0_1, .int .i64 a0_2] 37 (0, 0))) ∧ Aside0 (Below w.heap.size w wc))
 case first =>
  have H := HC6.out
  clear HC6
  by_cases c13 : a0_0 = 2
  · obtain ⟨H, c13b0, c13b1⟩ := ep_ c13 H
    clear c13
    (first | rw [c13b0] | (simp only [i64_w, i32_w]; rw [c13b0]) | skip)
    have H' := Aside0.mk H
    clear H
    go_wp2
    go_meet
    case rel => exact ⟨_, ((a0_0 == 2)), zV_, H', ⟨by first | omega | exact Nat.le_refl _⟩, ⟨b_ BK241.out⟩, ⟨by repeat (first | (with_reducible first | exact HB.out | apply below_alloc | apply pw_below_drewN | apply below_drew1 | refine below_set ?_ GE241.out) | exact HB.out)⟩⟩
  obtain ⟨H, c13b0, c13b1⟩ := en_ c13 H
  (first | rw [c13b0] | (simp only [i64_w, i32_w]; rw [c13b0]) | skip)
  have H' := Aside0.mk H
  clear H
  go_wp2
  go_meet
  case rel => exact ⟨_, ((a0_0 == 3)), zV_, H', ⟨by first | omega | exact Nat.le_refl _⟩, ⟨b_ BK241.out⟩, ⟨by repeat (first | (with_reducible first | exact HB.out | apply below_alloc | apply pw_below_drewN | apply below_drew1 | refine below_set ?_ GE241.out) | exact HB.out)⟩⟩
 case rest =>
  clear HC6
  obtain ⟨kq, x17_5, rfl, HA, HJ5, BK241, HB⟩ := hcut
  cases kq with
  | zero => exact absurd HA.out (by simp [impl_IsClue.j0])
  | succ kj5 =>
   have H := HA.out
   clear HA
   simp only [impl_IsClue.j0] at H
   by_cases c14 : x17_5 = true
   · subst c14
     rw [if_pos rfl] at H
     replace H := bd_ H; obtain ⟨t247, A15, H⟩ := H
     by_cases c16 : t247 = true
     · subst c16
       rw [if_pos rfl] at H
       replace H := bd_ H; obtain ⟨t248, A17, H⟩ := H
       obtain rfl := Option.some.inj H
       have hcz18_0 : wc.cell? ⟨gb241, 0, none⟩ = some (.int .i64 a0_0) := (blk_cell BK241.out 0).trans rfl
       have hcz18_1 : wc.cell? ⟨gb241, 1, none⟩ = some (.int .i64 a0_1) := (blk_cell BK241.out 1).trans rfl
       have hcz18_2 : wc.cell? ⟨gb241, 2, none⟩ = some (.int .i64 a0_2) := (blk_cell BK241.out 2).trans rfl
       have hfz18_0 := blk_frozen BK241.out 0
       have hfz18_1 := blk_frozen BK241.out 1
       have hfz18_2 := blk_frozen BK241.out 2
       go_wp2_with (first | ((with_reducible refine gc_ 63 rfl ?_); refine gL_ 25 Tryz.func63 #[.int .i64 a0_1, .int .i64 0, .int .i64 (rd y243 a0_0)] ?_; (with_reducible refine (impl_within.calls a0_1 0 (rd y243 a0_0) true _ A15.out).mono ?_); rintro e w' ⟨rfl, ⟨nd, rfl⟩⟩; refine ⟨_, rfl, ?_⟩) | (go_at_call 63; (with_reducible refine (impl_within.calls a0_2 0 1 t248 _ A17.out).mono ?_); rintro e w' ⟨rfl, ⟨nd, rfl⟩⟩))
       go_ret
       exact ⟨zR_, by repeat (first | (with_reducible first | exact HB.out | apply below_alloc | apply pw_below_drewN | apply below_drew1 | refine below_set ?_ GE241.out) | exact HB.out)⟩
     replace H := bf_ c16 H; obtain ⟨rfl, H⟩ := H
     obtain rfl := Option.some.inj H
     have hcz19_0 : wc.cell? ⟨gb241, 0, none⟩ = some (.int .i64 a0_0) := (blk_cell BK241.out 0).trans rfl
     have hcz19_1 : wc.cell? ⟨gb241, 1, none⟩ = some (.int .i64 a0_1) := (blk_cell BK241.out 1).trans rfl
     have hcz19_2 : wc.cell? ⟨gb241, 2, none⟩ = some (.int .i64 a0_2) := (blk_cell BK241.out 2).trans rfl
     have hfz19_0 := blk_frozen BK241.out 0
     have hfz19_1 := blk_frozen BK241.out 1
     have hfz19_2 := blk_frozen BK241.out 2
     go_wp2_with (first | ((with_reducible refine gc_ 63 rfl ?_); refine gL_ 25 Tryz.func63 #[.int .i64 a0_1, .int .i64 0, .int .i64 (rd y243 a0_0)] ?_; (with_reducible refine (impl_within.calls a0_1 0 (rd y243 a0_0) false _ A15.out).mono ?_); rintro e w' ⟨rfl, ⟨nd, rfl⟩⟩; refine ⟨_, rfl, ?_⟩))
     go_ret
     exact ⟨zR_, by repeat (first | (with_reducible first | exact HB.out | apply below_alloc | apply pw_below_drewN | apply below_drew1 | refine below_set ?_ GE241.out) | exact HB.out)⟩
   replace H := bf_ c14 H; obtain ⟨rfl, H⟩ := H
   by_cases c20 : a0_0 = 5
   · obtain ⟨H, c20b0, c20b1⟩ := ep_ c20 H
     clear c20
     replace H := bd_ H; obtain ⟨t249, A21, H⟩ := H
     by_cases c22 : t249 = true
     · subst c22
       rw [if_pos rfl] at H
       replace H := bd_ H; obtain ⟨t250, A23, H⟩ := H
       obtain rfl := Option.some.inj H
       have hcz24_0 : wc.cell? ⟨gb241, 0, none⟩ = some (.int .i64 a0_0) := (blk_cell BK241.out 0).trans rfl
       have hcz24_1 : wc.cell? ⟨gb241, 1, none⟩ = some (.int .i64 a0_1) := (blk_cell BK241.out 1).trans rfl
       have hcz24_2 : wc.cell? ⟨gb241, 2, none⟩ = some (.int .i64 a0_2) := (blk_cell BK241.out 2).trans rfl
       have hfz24_0 := blk_frozen BK241.out 0
       have hfz24_1 := blk_frozen BK241.out 1
       have hfz24_2 := blk_frozen BK241.out 2
       go_wp2_with (first | ((with_reducible refine gc_ 63 rfl ?_); refine gL_ 25 Tryz.func63 #[.int .i64 a0_1, .int .i64 0, .int .i64 (rd y243 a0_0)] ?_; (with_reducible refine (impl_within.calls a0_1 0 (rd y243 a0_0) true _ A21.out).mono ?_); rintro e w' ⟨rfl, ⟨nd, rfl⟩⟩; refine ⟨_, rfl, ?_⟩) | (go_at_call 63; (with_reducible refine (impl_within.calls a0_2 2 9 t250 _ A23.out).mono ?_); rintro e w' ⟨rfl, ⟨nd, rfl⟩⟩))
       go_ret
       exact ⟨zR_, by repeat (first | (with_reducible first | exact HB.out | apply below_alloc | apply pw_below_drewN | apply below_drew1 | refine below_set ?_ GE241.out) | exact HB.out)⟩
     replace H := bf_ c22 H; obtain ⟨rfl, H⟩ := H
     obtain rfl := Option.some.inj H
     have hcz25_0 : wc.cell? ⟨gb241, 0, none⟩ = some (.int .i64 a0_0) := (blk_cell BK241.out 0).trans rfl
     have hcz25_1 : wc.cell? ⟨gb241, 1, none⟩ = some (.int .i64 a0_1) := (blk_cell BK241.out 1).trans rfl
     have hcz25_2 : wc.cell? ⟨gb241, 2, none⟩ = some (.int .i64 a0_2) := (blk_cell BK241.out 2).trans rfl
     have hfz25_0 := blk_frozen BK241.out 0
     have hfz25_1 := blk_frozen BK241.out 1
     have hfz25_2 := blk_frozen BK241.out 2
     go_wp2_with (first | ((with_reducible refine gc_ 63 rfl ?_); refine gL_ 25 Tryz.func63 #[.int .i64 a0_1, .int .i64 0, .int .i64 (rd y243 a0_0)] ?_; (with_reducible refine (impl_within.calls a0_1 0 (rd y243 a0_0) false _ A21.out).mono ?_); rintro e w' ⟨rfl, ⟨nd, rfl⟩⟩; refine ⟨_, rfl, ?_⟩))
     go_ret
     exact ⟨zR_, by repeat (first | (with_reducible first | exact HB.out | apply below_alloc | apply pw_below_drewN | apply below_drew1 | refine below_set ?_ GE241.out) | exact HB.out)⟩
   obtain ⟨H, c20b0, c20b1⟩ := en_ c20 H
   replace H := bd_ H; obtain ⟨t251, A26, H⟩ := H
   by_cases c27 : t251 = true
   · subst c27
     rw [if_pos rfl] at H
     replace H := bd_ H; obtain ⟨t252, A28, H⟩ := H
     obtain rfl := Option.some.inj H
     have hcz29_0 : wc.cell? ⟨gb241, 0, none⟩ = some (.int .i64 a0_0) := (blk_cell BK241.out 0).trans rfl
     have hcz29_1 : wc.cell? ⟨gb241, 1, none⟩ = some (.int .i64 a0_1) := (blk_cell BK241.out 1).trans rfl
     have hcz29_2 : wc.cell? ⟨gb241, 2, none⟩ = some (.int .i64 a0_2) := (blk_cell BK241.out 2).trans rfl
     have hfz29_0 := blk_frozen BK241.out 0
     have hfz29_1 := blk_frozen BK241.out 1
     have hfz29_2 := blk_frozen BK241.out 2
     go_wp2_with (first | ((with_reducible refine gc_ 63 rfl ?_); refine gL_ 25 Tryz.func63 #[.int .i64 a0_1, .int .i64 0, .int .i64 (rd y243 a0_0)] ?_; (with_reducible refine (impl_within.calls a0_1 0 (rd y243 a0_0) true _ A26.out).mono ?_); rintro e w' ⟨rfl, ⟨nd, rfl⟩⟩; refine ⟨_, rfl, ?_⟩) | (go_at_call 63; (with_reducible refine (impl_within.calls a0_2 0 20 t252 _ A28.out).mono ?_); rintro e w' ⟨rfl, ⟨nd, rfl⟩⟩))
     go_ret
     exact ⟨zR_, by repeat (first | (with_reducible first | exact HB.out | apply below_alloc | apply pw_below_drewN | apply below_drew1 | refine below_set ?_ GE241.out) | exact HB.out)⟩
   replace H := bf_ c27 H; obtain ⟨rfl, H⟩ := H
   obtain rfl := Option.some.inj H
   have hcz30_0 : wc.cell? ⟨gb241, 0, none⟩ = some (.int .i64 a0_0) := (blk_cell BK241.out 0).trans rfl
   have hcz30_1 : wc.cell? ⟨gb241, 1, none⟩ = some (.int .i64 a0_1) := (blk_cell BK241.out 1).trans rfl
   have hcz30_2 : wc.cell? ⟨gb241, 2, none⟩ = some (.int .i64 a0_2) := (blk_cell BK241.out 2).trans rfl
   have hfz30_0 := blk_frozen BK241.out 0
   have hfz30_1 := blk_frozen BK241.out 1
   have hfz30_2 := blk_frozen BK241.out 2
   go_wp2_with (first | ((with_reducible refine gc_ 63 rfl ?_); refine gL_ 25 Tryz.func63 #[.int .i64 a0_1, .int .i64 0, .int .i64 (rd y243 a0_0)] ?_; (with_reducible refine (impl_within.calls a0_1 0 (rd y243 a0_0) false _ A26.out).mono ?_); rintro e w' ⟨rfl, ⟨nd, rfl⟩⟩; refine ⟨_, rfl, ?_⟩))
   go_ret
   exact ⟨zR_, by repeat (first | (with_reducible first | exact HB.out | apply below_alloc | apply pw_below_drewN | apply below_drew1 | refine below_set ?_ GE241.out) | exact HB.out)⟩

/-! ### impl_numberOf: function 74 -/
def impl_numberOf.l0 : Nat → ByteArray → Int → Int → Int → Option (Int)
 | 0, _, _, _, _ => none
 | k + 1, x0, x3, x6, x7 => if x7 < x6 then (if 0 ≤ x7 then (if x7 < (x0.size : Int) then (impl_numberOf.l0 k x0 (wrap64 ((wrap64 (10 * x3)) + (((bt x0 x7) - 48) % 256))) x6 (wrap64 (x7 + 1))) else (none)) else (none)) else (some x3)
def impl_numberOf.f (k : Nat) (a0 : ByteArray) : Option (Int) := impl_numberOf.l0 k a0 0 (a0.size : Int) 0
theorem impl_numberOf.mono_l : ∀ k, (∀ y0 y1 y2 y3, LeO (impl_numberOf.l0 k y0 y1 y2 y3) (impl_numberOf.l0 (k + 1) y0 y1 y2 y3))
 | 0 => fun _ _ _ _ r h => by simp [impl_numberOf.l0] at h
 | k + 1 => by
  have ih0 := impl_numberOf.mono_l k
  intro y0 y1 y2 y3
  unfold impl_numberOf.l0
  repeat' first
  | (with_reducible exact ih0 _ _ _ _)
  | (with_reducible exact LeO.refl _)
  | (with_reducible exact LeO.none _)
  | (with_reducible refine LeO.ite ?_ ?_)
  | (with_reducible refine LeO.bind ?_ (fun _ => ?_))
  | exact LeO.none _
  | refine LeO.ite ?_ ?_
  | refine LeO.bind ?_ (fun _ => ?_)
theorem impl_numberOf.mono : ∀ a0 k, LeO (impl_numberOf.f k a0) (impl_numberOf.f (k + 1) a0) := by
 intro a0 k
 have ih0 := impl_numberOf.mono_l k
 unfold impl_numberOf.f
 repeat' first
  | (with_reducible exact ih0 _ _ _ _)
  | (with_reducible exact LeO.refl _)
  | (with_reducible exact LeO.none _)
  | (with_reducible refine LeO.ite ?_ ?_)
  | (with_reducible refine LeO.bind ?_ (fun _ => ?_))
  | exact LeO.none _
  | refine LeO.ite ?_ ?_
  | refine LeO.bind ?_ (fun _ => ?_)
set_option maxHeartbeats 8000000 in
set_option maxRecDepth 100000 in
theorem impl_numberOf.calls (k : Nat) (a0 : ByteArray) (r : Int) (w : World) (h : impl_numberOf.f k a0 = some r) :
 Calls Tryz.prog 74 #[.string a0] w fun e w' => e = .returned (.int .i64 r) ∧ Drawn0 w w' := by
 unfold impl_numberOf.f at h
 have H := h
 clear h
 have H' := Aside0.mk H
 clear H
 go_enter Tryz.func74, Tryz.ntmps74
 go_wp2
 go_loopg [3, 7] k (fun kq v3 v7 w' => ∃ (x3_1 : Int) (x7_1 : Int), v3 = .int .i64 x3_1 ∧ v7 = .int .i64 x7_1 ∧ Aside0 (impl_numberOf.l0 kq a0 x3_1 (a0.size : Int) x7_1 = some r) ∧ Aside0 (kq ≤ k) ∧ Drawn0 w w')
 case atStart => exact ⟨(0), (0), zV_, zV_, H', ⟨Nat.le_refl _⟩, by repeat (first | exact Drawn0.refl _ | apply Drawn0.step)⟩
 case round =>
  clear H'
  obtain ⟨x3_1, x7_1, rfl, rfl, HA, HK1, ⟨m1, rfl⟩⟩ := hrel
  cases gk with
  | zero => exact absurd HA.out (by simp [impl_numberOf.l0])
  | succ k1 =>
   have H := HA.out
   clear HA
   simp only [impl_numberOf.l0] at H
   by_cases c2 : x7_1 < (a0.size : Int)
   rotate_left
   · rw [if_neg c2] at H
     have c2b0 := decide_eq_false c2
     clear c2
     obtain rfl := Option.some.inj H
     go_wp2
     go_ret
     exact ⟨by first | rfl | (simp; done) | (simp [*]; done), by repeat (first | exact Drawn0.refl _ | apply Drawn0.step)⟩
   rw [if_pos c2] at H
   have c2b0 := decide_eq_true c2
   clear c2
   replace H := gd_ H; obtain ⟨c3, H⟩ := H
   have c3b0 : decide (0 ≤ x7_1) = true := decide_eq_true c3
   clear c3
   replace H := gd_ H; obtain ⟨c4, H⟩ := H
   have c4b0 : decide (x7_1 < (a0.size : Int)) = true := decide_eq_true c4
   clear c4
   have H' := Aside0.mk H
   clear H
   have p5 : 0 ≤ (x7_1 : Int) := of_decide_eq_true zS_
   have q5 : x7_1 < (a0.size : Int) := of_decide_eq_true zS_
   have hx5 := bt_at a0 x7_1
   replace p5 := eq_true p5
   replace q5 := eq_true q5
   go_wp2
   go_roundg k1
   case measure => have := HK1.out; omega
   case rel => exact ⟨(wrap64 ((wrap64 (10 * x3_1)) + (((bt a0 x7_1) - 48) % 256))), (wrap64 (x7_1 + 1)), zV_, zV_, H', ⟨by have := HK1.out; omega⟩, by repeat (first | exact Drawn0.refl _ | apply Drawn0.step)⟩

/-! ### impl_Clue_fits: function 72 -/
def impl_Clue_fits.f (k : Nat) (a0_0 : Int) (a0_1 : Int) (a0_2 : Int) (a1 : ByteArray) : Option (Bool) := if a0_0 = 5 then ((impl_numberOf.f k a1).bind fun t254 => (if a0_2 = 0 then (none) else (some ((Int.tmod t254 a0_2) == 0)))) else ((impl_told.f k a0_0 a0_1 a1).bind fun t255 => (some (t255 == a0_2)))
theorem impl_Clue_fits.mono : ∀ a0 a1 a2 a3 k, LeO (impl_Clue_fits.f k a0 a1 a2 a3) (impl_Clue_fits.f (k + 1) a0 a1 a2 a3) := by
 intro a0 a1 a2 a3 k
 unfold impl_Clue_fits.f
 have m1_ := @impl_numberOf.mono
 have m2_ := @impl_told.mono
 exact zM_
def impl_Clue_fits.T3 : Bool × List (List Nat × List Nat) := (true, [([], []), ([0], [0]), ([], []), ([2], [2]), ([], []), ([1, 3, 4], [1, 3, 4]), ([], []), ([6], [6]), ([5, 7], [5, 7]), ([8, 5, 0, 1, 2, 3, 4, 5, 6, 7, 8], [8])])
def impl_Clue_fits.B3 : List Nat := [0, 1, 0, 4, 0, 31, 0, 64, 255, 511]
theorem impl_Clue_fits.tab3 : rtab .any (opsOf Tryz.f72 3) = impl_Clue_fits.T3 := by kernel_rfl
theorem impl_Clue_fits.bits3 : waitsOk impl_Clue_fits.T3.2 impl_Clue_fits.B3 = true := by kernel_rfl
set_option maxHeartbeats 8000000 in
set_option maxRecDepth 100000 in
theorem impl_Clue_fits.calls (k : Nat) (a0_0 : Int) (a0_1 : Int) (a0_2 : Int) (a1 : ByteArray) (r : Bool) (w : World) (h : impl_Clue_fits.f k a0_0 a0_1 a0_2 a1 = some r) :
 Calls Tryz.prog 72 #[.agg #[.int .i64 a0_0, .int .i64 a0_1, .int .i64 a0_2], .string a1] w fun e w' => e = .returned (.bool r) ∧ Below w.heap.size w w' := by
 have hu37 := Tryz.underlying37
 have HB := Aside0.mk (Below.refl w.heap.size w)
 unfold impl_Clue_fits.f at h
 have H := h
 clear h
 by_cases c3 : a0_0 = 5
 · obtain ⟨H, c3b0, c3b1⟩ := ep_ c3 H
   clear c3
   replace H := bd_ H; obtain ⟨t254, A4, H⟩ := H
   replace H := nz_ H; obtain ⟨c5, H⟩ := H
   have c5b0 : (a0_2 == 0) = false := beq_eq_false_iff_ne.mpr c5
   have c5b1 : (a0_2 != 0) = true := bne_iff_ne.mpr c5
   obtain rfl := Option.some.inj H
   go_enter Tryz.func72, Tryz.ntmps72
   try go_wp2_with (first | (refine bx_ 2 #[.int .i64 a0_0, .int .i64 a0_1, .int .i64 a0_2] 37 ?_; intro gb253 hg w6 hbox hb; have BK253 := Aside0.mk (hbox); have GW253 : Aside0 (w.heap.size ≤ gb253) := bs_ hg zB_; have GE253 := GW253; replace HB := Aside0.mk (below_step zB_ hb); clear hb hbox hg; have hcz7_0 : w6.cell? ⟨gb253, 0, none⟩ = some (.int .i64 a0_0) := (blk_cell BK253.out 0).trans rfl; have hcz7_1 : w6.cell? ⟨gb253, 1, none⟩ = some (.int .i64 a0_1) := (blk_cell BK253.out 1).trans rfl; have hcz7_2 : w6.cell? ⟨gb253, 2, none⟩ = some (.int .i64 a0_2) := (blk_cell BK253.out 2).trans rfl; have hfz7_0 := blk_frozen BK253.out 0; have hfz7_1 := blk_frozen BK253.out 1; have hfz7_2 := blk_frozen BK253.out 2))
   replace BK253 := Aside0.mk (blk_drew BK253.out)
   replace HB := Aside0.mk (below_drew1 HB.out)
   refine start_ (n := 7) (S := fun w' => w'.cell? ⟨gb253, 0, none⟩ = some (.int .i64 a0_0) ∧ w'.cell? ⟨gb253, 1, none⟩ = some (.int .i64 a0_1) ∧ w'.cell? ⟨gb253, 2, none⟩ = some (.int .i64 a0_2)) (ds := []) #[false, false, false, false, false, false, false] (by kernel_rfl) rfl rfl ⟨(blk_cell BK253.out 0).trans rfl, (blk_cell BK253.out 1).trans rfl, (blk_cell BK253.out 2).trans rfl⟩ (fun hHeld => ?_)
   generalize w6.drew = w8 at BK253 HB hHeld ⊢
   refine pq_ 0 8 ?_
   refine pq_ 2 10 ?_
   refine take_ (i := 3) (N := some 11) (v := ?_) (a' := ?_) #[true, false, true, true, false, false, false] rfl rfl (by kernel_rfl) (fun _ _ _ h => h) (Or.inl ⟨by rfl, ?_⟩) hHeld ?_ ?_
   rotate_left
   · rintro w' ⟨s0, s1, s2⟩
     go_simp
     with_reducible rfl
   rotate_left
   · simp only [Act.put, List.setIfInBounds_toArray, List.set_cons_zero, List.set_cons_succ, i64_w, i32_w]
     rfl
   refine one_ (i := 1) (N := some 9) #[true, true, true, true, false, false, false] rfl rfl (by kernel_rfl) (by decide) (fun K hK => ?_)
   refine goes_ Tryz.func74 (by kernel_rfl) rfl #[.string a1] (by rfl) rfl rfl z9_1_ ?_
   with_reducible refine (impl_numberOf.calls k a1 t254 _ A4.out).mono ?_
   rintro e w' ⟨rfl, ⟨nd, rfl⟩⟩
   refine ⟨_, rfl, ?_⟩
   refine hK.out _ _ ⟨(blk_cell BK253.out 0).trans rfl, (blk_cell BK253.out 1).trans rfl, (blk_cell BK253.out 2).trans rfl⟩ (fun hHeld => ?_)
   clear hK K
   refine norm_ (a' := ?_) ?_ ?_
   rotate_left
   · show Act.put _ (some 9) _ = _
     simp only [Act.put, List.setIfInBounds_toArray, List.set_cons_zero, List.set_cons_succ, i64_w, i32_w]
     rfl
   refine pq_ 4 12 ?_
   refine pq_ 5 13 ?_
   refine pq_ 6 4 ?_
   refine done_ (by kernel_rfl) ?_
   try go_wp2
   go_ret
   exact ⟨zR_, by repeat (first | (with_reducible first | exact HB.out | apply below_alloc | apply pw_below_drewN | apply below_drew1 | refine below_set ?_ GE253.out) | exact HB.out)⟩
 obtain ⟨H, c3b0, c3b1⟩ := en_ c3 H
 replace H := bd_ H; obtain ⟨t255, A9, H⟩ := H
 obtain rfl := Option.some.inj H
 go_enter Tryz.func72, Tryz.ntmps72
 try go_wp2_with (first | (refine bx_ 2 #[.int .i64 a0_0, .int .i64 a0_1, .int .i64 a0_2] 37 ?_; intro gb253 hg w10 hbox hb; have BK253 := Aside0.mk (hbox); have GW253 : Aside0 (w.heap.size ≤ gb253) := bs_ hg zB_; have GE253 := GW253; replace HB := Aside0.mk (below_step zB_ hb); clear hb hbox hg; have hcz11_0 : w10.cell? ⟨gb253, 0, none⟩ = some (.int .i64 a0_0) := (blk_cell BK253.out 0).trans rfl; have hcz11_1 : w10.cell? ⟨gb253, 1, none⟩ = some (.int .i64 a0_1) := (blk_cell BK253.out 1).trans rfl; have hcz11_2 : w10.cell? ⟨gb253, 2, none⟩ = some (.int .i64 a0_2) := (blk_cell BK253.out 2).trans rfl; have hfz11_0 := blk_frozen BK253.out 0; have hfz11_1 := blk_frozen BK253.out 1; have hfz11_2 := blk_frozen BK253.out 2))
 replace BK253 := Aside0.mk (blk_drew BK253.out)
 replace HB := Aside0.mk (below_drew1 HB.out)
 refine start_ (n := 10) (S := fun w' => w'.cell? ⟨gb253, 0, none⟩ = some (.int .i64 a0_0) ∧ w'.cell? ⟨gb253, 1, none⟩ = some (.int .i64 a0_1) ∧ w'.cell? ⟨gb253, 2, none⟩ = some (.int .i64 a0_2)) (ds := []) #[false, false, false, false, false, false, false, false, false, false] (by kernel_rfl) rfl rfl ⟨(blk_cell BK253.out 0).trans rfl, (blk_cell BK253.out 1).trans rfl, (blk_cell BK253.out 2).trans rfl⟩ (fun hHeld => ?_); refine with_tabW impl_Clue_fits.tab3 impl_Clue_fits.bits3 (fun HT_ HW_ => ?_)
 generalize w10.drew = w12 at BK253 HB hHeld ⊢
 refine pq_ 0 14 ?_
 refine pq_ 2 16 ?_
 refine pq_ 4 18 ?_
 refine pq_ 6 20 ?_
 refine take_ (i := 1) (N := some 15) (v := ?_) (a' := ?_) #[true, true, true, false, true, false, true, false, false, false] rfl rfl (take_ofW HT_.out HW_.out (by kernel_rfl)) (fun _ _ _ h => h) (Or.inl ⟨by rfl, ?_⟩) hHeld ?_ ?_
 rotate_left
 · rintro w' ⟨s0, s1, s2⟩
   go_simp
   with_reducible rfl
 rotate_left
 · simp only [Act.put, List.setIfInBounds_toArray, List.set_cons_zero, List.set_cons_succ, i64_w, i32_w]
   rfl
 refine take_ (i := 3) (N := some 17) (v := ?_) (a' := ?_) #[true, true, true, true, true, false, true, false, false, false] rfl rfl (take_ofW HT_.out HW_.out (by kernel_rfl)) (fun _ _ _ h => h) (Or.inl ⟨by rfl, ?_⟩) hHeld ?_ ?_
 rotate_left
 · rintro w' ⟨s0, s1, s2⟩
   go_simp
   with_reducible rfl
 rotate_left
 · simp only [Act.put, List.setIfInBounds_toArray, List.set_cons_zero, List.set_cons_succ, i64_w, i32_w]
   rfl
 refine take_ (i := 7) (N := some 21) (v := ?_) (a' := ?_) #[true, true, true, true, true, false, true, true, false, false] rfl rfl (take_ofW HT_.out HW_.out (by kernel_rfl)) (fun _ _ _ h => h) (Or.inl ⟨by rfl, ?_⟩) hHeld ?_ ?_
 rotate_left
 · rintro w' ⟨s0, s1, s2⟩
   go_simp
   with_reducible rfl
 rotate_left
 · simp only [Act.put, List.setIfInBounds_toArray, List.set_cons_zero, List.set_cons_succ, i64_w, i32_w]
   rfl
 refine one_ (i := 5) (N := some 19) #[true, true, true, true, true, true, true, true, false, false] rfl rfl (one_of HT_.out (by kernel_rfl)) (by decide) (fun K hK => ?_)
 refine goes_ Tryz.func65 (by kernel_rfl) rfl #[.int .i64 a0_0, .int .i64 a0_1, .string a1] (by rfl) rfl rfl z9_1_ ?_
 with_reducible refine (impl_told.calls k a0_0 a0_1 a1 t255 _ A9.out).mono ?_
 rintro e w13 ⟨rfl, hb⟩
 refine ⟨_, rfl, ?_⟩
 replace BK253 := bb_ BK253 (b_ BK253.out) hb
 replace HB := Aside0.mk (below_step (by repeat (first | (with_reducible first | exact HB.out | apply below_alloc | apply pw_below_drewN | apply below_drew1 | refine below_set ?_ GE253.out) | exact HB.out)) hb)
 
 
 
 
 refine hK.out _ _ ⟨(blk_cell BK253.out 0).trans rfl, (blk_cell BK253.out 1).trans rfl, (blk_cell BK253.out 2).trans rfl⟩ (fun hHeld => ?_)
 clear hK K
 refine norm_ (a' := ?_) ?_ ?_
 rotate_left
 · show Act.put _ (some 19) _ = _
   simp only [Act.put, List.setIfInBounds_toArray, List.set_cons_zero, List.set_cons_succ, i64_w, i32_w]
   rfl
 refine pq_ 8 22 ?_
 refine pq_ 9 4 ?_
 refine done_ (done_of HT_.out (by kernel_rfl)) ?_
 try go_wp2
 go_ret
 exact ⟨zR_, by repeat (first | (with_reducible first | exact HB.out | apply below_alloc | apply pw_below_drewN | apply below_drew1 | refine below_set ?_ GE253.out) | exact HB.out)⟩

/-! ### impl_DoesFit: function 11 -/
def impl_DoesFit.f (k : Nat) (a0_0 : Int) (a0_1 : Int) (a0_2 : Int) (a1 : ByteArray) : Option (Bool × Bool) := (impl_IsClue.f k a0_0 a0_1 a0_2).bind fun t257 => (if t257 = true then ((impl_isHidden.f k a1).bind fun t258 => (if t258 = true then ((impl_Clue_fits.f k a0_0 a0_1 a0_2 a1).bind fun t259 => (some (t259, true))) else (some (false, false)))) else (some (false, false)))
theorem impl_DoesFit.mono : ∀ a0 a1 a2 a3 k, LeO (impl_DoesFit.f k a0 a1 a2 a3) (impl_DoesFit.f (k + 1) a0 a1 a2 a3) := by
 intro a0 a1 a2 a3 k
 unfold impl_DoesFit.f
 have m1_ := @impl_Clue_fits.mono
 have m2_ := @impl_IsClue.mono
 have m3_ := @impl_isHidden.mono
 exact zM_
set_option maxHeartbeats 8000000 in
set_option maxRecDepth 100000 in
theorem impl_DoesFit.calls (k : Nat) (a0_0 : Int) (a0_1 : Int) (a0_2 : Int) (a1 : ByteArray) (r1 : Bool) (r2 : Bool) (w : World) (h : impl_DoesFit.f k a0_0 a0_1 a0_2 a1 = some (r1, r2)) :
 Calls Tryz.prog 11 #[.agg #[.int .i64 a0_0, .int .i64 a0_1, .int .i64 a0_2], .string a1] w fun e w' => e = .returned (.tuple #[.bool r1, .bool r2]) ∧ Below w.heap.size w w' := by
 have hu37 := Tryz.underlying37
 have HB := Aside0.mk (Below.refl w.heap.size w)
 unfold impl_DoesFit.f at h
 have H := h
 clear h
 replace H := bd_ H; obtain ⟨t257, A3, H⟩ := H
 by_cases c4 : t257 = true
 rotate_left
 · replace H := bf_ c4 H; obtain ⟨rfl, H⟩ := H
   simp only [Option.some.injEq, Prod.mk.injEq] at H
   obtain ⟨rfl, rfl⟩ := H
   go_enter Tryz.func11, Tryz.ntmps11
   go_wp2_with (first | (refine bx_ 2 #[.int .i64 a0_0, .int .i64 a0_1, .int .i64 a0_2] 37 ?_; intro gb256 hg w18 hbox hb; have BK256 := Aside0.mk (hbox); have GW256 : Aside0 (w.heap.size ≤ gb256) := bs_ hg zB_; have GE256 := GW256; replace HB := Aside0.mk (below_step zB_ hb); clear hb hbox hg; have hcz19_0 : w18.cell? ⟨gb256, 0, none⟩ = some (.int .i64 a0_0) := (blk_cell BK256.out 0).trans rfl; have hcz19_1 : w18.cell? ⟨gb256, 1, none⟩ = some (.int .i64 a0_1) := (blk_cell BK256.out 1).trans rfl; have hcz19_2 : w18.cell? ⟨gb256, 2, none⟩ = some (.int .i64 a0_2) := (blk_cell BK256.out 2).trans rfl; have hfz19_0 := blk_frozen BK256.out 0; have hfz19_1 := blk_frozen BK256.out 1; have hfz19_2 := blk_frozen BK256.out 2) | ((with_reducible refine gc_ 31 rfl ?_); refine gL_ 7 Tryz.func31 #[.agg #[.int .i64 a0_0, .int .i64 a0_1, .int .i64 a0_2]] ?_; (with_reducible refine (impl_IsClue.calls k a0_0 a0_1 a0_2 false _ A3.out).mono ?_); rintro e w20 ⟨rfl, hb⟩; refine ⟨_, rfl, ?_⟩; replace BK256 := bb_ BK256 z9_3_ hb; replace HB := Aside0.mk (below_step z9_2_ hb)))
   go_ret2
   exact ⟨zR_, by repeat (first | (with_reducible first | exact HB.out | apply below_alloc | apply pw_below_drewN | apply below_drew1 | refine below_set ?_ GE256.out) | exact HB.out)⟩
 subst c4
 rw [if_pos rfl] at H
 replace H := bd_ H; obtain ⟨t258, A5, H⟩ := H
 by_cases c6 : t258 = true
 · subst c6
   rw [if_pos rfl] at H
   replace H := bd_ H; obtain ⟨t259, A7, H⟩ := H
   simp only [Option.some.injEq, Prod.mk.injEq] at H
   obtain ⟨rfl, rfl⟩ := H
   go_enter Tryz.func11, Tryz.ntmps11
   go_wp2_with (first | (refine bx_ 2 #[.int .i64 a0_0, .int .i64 a0_1, .int .i64 a0_2] 37 ?_; intro gb256 hg w8 hbox hb; have BK256 := Aside0.mk (hbox); have GW256 : Aside0 (w.heap.size ≤ gb256) := bs_ hg zB_; have GE256 := GW256; replace HB := Aside0.mk (below_step zB_ hb); clear hb hbox hg; have hcz9_0 : w8.cell? ⟨gb256, 0, none⟩ = some (.int .i64 a0_0) := (blk_cell BK256.out 0).trans rfl; have hcz9_1 : w8.cell? ⟨gb256, 1, none⟩ = some (.int .i64 a0_1) := (blk_cell BK256.out 1).trans rfl; have hcz9_2 : w8.cell? ⟨gb256, 2, none⟩ = some (.int .i64 a0_2) := (blk_cell BK256.out 2).trans rfl; have hfz9_0 := blk_frozen BK256.out 0; have hfz9_1 := blk_frozen BK256.out 1; have hfz9_2 := blk_frozen BK256.out 2) | ((with_reducible refine gc_ 31 rfl ?_); refine gL_ 7 Tryz.func31 #[.agg #[.int .i64 a0_0, .int .i64 a0_1, .int .i64 a0_2]] ?_; (with_reducible refine (impl_IsClue.calls k a0_0 a0_1 a0_2 true _ A3.out).mono ?_); rintro e w10 ⟨rfl, hb⟩; refine ⟨_, rfl, ?_⟩; replace BK256 := bb_ BK256 z9_3_ hb; replace HB := Aside0.mk (below_step z9_2_ hb)) | (go_at_call 62; (with_reducible refine (impl_isHidden.calls k a1 true _ A5.out).mono ?_); rintro e w11 ⟨rfl, hb⟩; replace BK256 := bb_ BK256 z9_3_ hb; replace HB := Aside0.mk (below_step z9_2_ hb); have hcz12_0 : w11.cell? ⟨gb256, 0, none⟩ = some (.int .i64 a0_0) := (blk_cell BK256.out 0).trans rfl; have hcz12_1 : w11.cell? ⟨gb256, 1, none⟩ = some (.int .i64 a0_1) := (blk_cell BK256.out 1).trans rfl; have hcz12_2 : w11.cell? ⟨gb256, 2, none⟩ = some (.int .i64 a0_2) := (blk_cell BK256.out 2).trans rfl; have hfz12_0 := blk_frozen BK256.out 0; have hfz12_1 := blk_frozen BK256.out 1; have hfz12_2 := blk_frozen BK256.out 2) | ((with_reducible refine gc_ 72 rfl ?_); refine gL_ 16 Tryz.func72 #[.agg #[.int .i64 a0_0, .int .i64 a0_1, .int .i64 a0_2], .string a1] ?_; (with_reducible refine (impl_Clue_fits.calls k a0_0 a0_1 a0_2 a1 t259 _ A7.out).mono ?_); rintro e w13 ⟨rfl, hb⟩; refine ⟨_, rfl, ?_⟩; replace BK256 := bb_ BK256 z9_3_ hb; replace HB := Aside0.mk (below_step z9_2_ hb)))
   go_ret2
   exact ⟨zR_, by repeat (first | (with_reducible first | exact HB.out | apply below_alloc | apply pw_below_drewN | apply below_drew1 | refine below_set ?_ GE256.out) | exact HB.out)⟩
 replace H := bf_ c6 H; obtain ⟨rfl, H⟩ := H
 simp only [Option.some.injEq, Prod.mk.injEq] at H
 obtain ⟨rfl, rfl⟩ := H
 go_enter Tryz.func11, Tryz.ntmps11
 go_wp2_with (first | (refine bx_ 2 #[.int .i64 a0_0, .int .i64 a0_1, .int .i64 a0_2] 37 ?_; intro gb256 hg w14 hbox hb; have BK256 := Aside0.mk (hbox); have GW256 : Aside0 (w.heap.size ≤ gb256) := bs_ hg zB_; have GE256 := GW256; replace HB := Aside0.mk (below_step zB_ hb); clear hb hbox hg; have hcz15_0 : w14.cell? ⟨gb256, 0, none⟩ = some (.int .i64 a0_0) := (blk_cell BK256.out 0).trans rfl; have hcz15_1 : w14.cell? ⟨gb256, 1, none⟩ = some (.int .i64 a0_1) := (blk_cell BK256.out 1).trans rfl; have hcz15_2 : w14.cell? ⟨gb256, 2, none⟩ = some (.int .i64 a0_2) := (blk_cell BK256.out 2).trans rfl; have hfz15_0 := blk_frozen BK256.out 0; have hfz15_1 := blk_frozen BK256.out 1; have hfz15_2 := blk_frozen BK256.out 2) | ((with_reducible refine gc_ 31 rfl ?_); refine gL_ 7 Tryz.func31 #[.agg #[.int .i64 a0_0, .int .i64 a0_1, .int .i64 a0_2]] ?_; (with_reducible refine (impl_IsClue.calls k a0_0 a0_1 a0_2 true _ A3.out).mono ?_); rintro e w16 ⟨rfl, hb⟩; refine ⟨_, rfl, ?_⟩; replace BK256 := bb_ BK256 z9_3_ hb; replace HB := Aside0.mk (below_step z9_2_ hb)) | (go_at_call 62; (with_reducible refine (impl_isHidden.calls k a1 false _ A5.out).mono ?_); rintro e w17 ⟨rfl, hb⟩; replace BK256 := bb_ BK256 z9_3_ hb; replace HB := Aside0.mk (below_step z9_2_ hb)))
 go_ret2
 exact ⟨zR_, by repeat (first | (with_reducible first | exact HB.out | apply below_alloc | apply pw_below_drewN | apply below_drew1 | refine below_set ?_ GE256.out) | exact HB.out)⟩

/-! ### impl_IsLucky: function 12 -/
def impl_IsLucky.f (k : Nat) (a0 : ByteArray) : Option (Bool × Bool) := (impl_IsTicket.f k a0).bind fun t260 => (if t260 = true then ((impl_isLucky.f k a0).bind fun t261 => (some (t261, true))) else (some (false, false)))
theorem impl_IsLucky.mono : ∀ a0 k, LeO (impl_IsLucky.f k a0) (impl_IsLucky.f (k + 1) a0) := by
 intro a0 k
 unfold impl_IsLucky.f
 have m1_ := @impl_IsTicket.mono
 have m2_ := @impl_isLucky.mono
 exact zM_
set_option maxHeartbeats 8000000 in
set_option maxRecDepth 100000 in
theorem impl_IsLucky.calls (k : Nat) (a0 : ByteArray) (r1 : Bool) (r2 : Bool) (w : World) (h : impl_IsLucky.f k a0 = some (r1, r2)) :
 Calls Tryz.prog 12 #[.string a0] w fun e w' => e = .returned (.tuple #[.bool r1, .bool r2]) ∧ Drawn0 w w' := by
 unfold impl_IsLucky.f at h
 have H := h
 clear h
 replace H := bd_ H; obtain ⟨t260, A2, H⟩ := H
 by_cases c3 : t260 = true
 · subst c3
   rw [if_pos rfl] at H
   replace H := bd_ H; obtain ⟨t261, A4, H⟩ := H
   simp only [Option.some.injEq, Prod.mk.injEq] at H
   obtain ⟨rfl, rfl⟩ := H
   go_enter Tryz.func12, Tryz.ntmps12
   go_wp2_with (first | ((with_reducible refine gc_ 52 rfl ?_); refine gL_ 5 Tryz.func52 #[.string a0] ?_; (with_reducible refine (impl_IsTicket.calls k a0 true _ A2.out).mono ?_); rintro e w' ⟨rfl, ⟨nd, rfl⟩⟩; refine ⟨_, rfl, ?_⟩) | ((with_reducible refine gc_ 73 rfl ?_); refine gL_ 8 Tryz.func73 #[.string a0] ?_; (with_reducible refine (impl_isLucky.calls k a0 t261 _ A4.out).mono ?_); rintro e w' ⟨rfl, ⟨nd, rfl⟩⟩; refine ⟨_, rfl, ?_⟩))
   go_ret2
   exact ⟨by first | rfl | (simp; done) | (simp [*]; done), by repeat (first | exact Drawn0.refl _ | apply Drawn0.step)⟩
 replace H := bf_ c3 H; obtain ⟨rfl, H⟩ := H
 simp only [Option.some.injEq, Prod.mk.injEq] at H
 obtain ⟨rfl, rfl⟩ := H
 go_enter Tryz.func12, Tryz.ntmps12
 go_wp2_with (first | ((with_reducible refine gc_ 52 rfl ?_); refine gL_ 5 Tryz.func52 #[.string a0] ?_; (with_reducible refine (impl_IsTicket.calls k a0 false _ A2.out).mono ?_); rintro e w' ⟨rfl, ⟨nd, rfl⟩⟩; refine ⟨_, rfl, ?_⟩))
 go_ret2
 exact ⟨by first | rfl | (simp; done) | (simp [*]; done), by repeat (first | exact Drawn0.refl _ | apply Drawn0.step)⟩

/-! ### impl_NumberOfTicket: function 13 -/
def impl_NumberOfTicket.f (k : Nat) (a0 : ByteArray) : Option (Int × Bool) := (impl_IsTicket.f k a0).bind fun t262 => (if t262 = true then ((impl_numberOf.f k a0).bind fun t263 => (some (t263, true))) else (some (0, false)))
theorem impl_NumberOfTicket.mono : ∀ a0 k, LeO (impl_NumberOfTicket.f k a0) (impl_NumberOfTicket.f (k + 1) a0) := by
 intro a0 k
 unfold impl_NumberOfTicket.f
 have m1_ := @impl_IsTicket.mono
 have m2_ := @impl_numberOf.mono
 exact zM_
set_option maxHeartbeats 8000000 in
set_option maxRecDepth 100000 in
theorem impl_NumberOfTicket.calls (k : Nat) (a0 : ByteArray) (r1 : Int) (r2 : Bool) (w : World) (h : impl_NumberOfTicket.f k a0 = some (r1, r2)) :
 Calls Tryz.prog 13 #[.string a0] w fun e w' => e = .returned (.tuple #[.int .i64 r1, .bool r2]) ∧ Drawn0 w w' := by
 unfold impl_NumberOfTicket.f at h
 have H := h
 clear h
 replace H := bd_ H; obtain ⟨t262, A2, H⟩ := H
 by_cases c3 : t262 = true
 · subst c3
   rw [if_pos rfl] at H
   replace H := bd_ H; obtain ⟨t263, A4, H⟩ := H
   simp only [Option.some.injEq, Prod.mk.injEq] at H
   obtain ⟨rfl, rfl⟩ := H
   go_enter Tryz.func13, Tryz.ntmps13
   go_wp2_with (first | ((with_reducible refine gc_ 52 rfl ?_); refine gL_ 5 Tryz.func52 #[.string a0] ?_; (with_reducible refine (impl_IsTicket.calls k a0 true _ A2.out).mono ?_); rintro e w' ⟨rfl, ⟨nd, rfl⟩⟩; refine ⟨_, rfl, ?_⟩) | ((with_reducible refine gc_ 74 rfl ?_); refine gL_ 8 Tryz.func74 #[.string a0] ?_; (with_reducible refine (impl_numberOf.calls k a0 t263 _ A4.out).mono ?_); rintro e w' ⟨rfl, ⟨nd, rfl⟩⟩; refine ⟨_, rfl, ?_⟩))
   go_ret2
   exact ⟨by first | rfl | (simp; done) | (simp [*]; done), by repeat (first | exact Drawn0.refl _ | apply Drawn0.step)⟩
 replace H := bf_ c3 H; obtain ⟨rfl, H⟩ := H
 simp only [Option.some.injEq, Prod.mk.injEq] at H
 obtain ⟨rfl, rfl⟩ := H
 go_enter Tryz.func13, Tryz.ntmps13
 go_wp2_with (first | ((with_reducible refine gc_ 52 rfl ?_); refine gL_ 5 Tryz.func52 #[.string a0] ?_; (with_reducible refine (impl_IsTicket.calls k a0 false _ A2.out).mono ?_); rintro e w' ⟨rfl, ⟨nd, rfl⟩⟩; refine ⟨_, rfl, ?_⟩))
 go_ret2
 exact ⟨by first | rfl | (simp; done) | (simp [*]; done), by repeat (first | exact Drawn0.refl _ | apply Drawn0.step)⟩

-- NOT PRINTED: function 105 (impl_Clue_105)

-- NOT PRINTED: function 75 (impl_Clue_75)

/-! ### impl_IsPuzzle_1: function 76 -/
def impl_IsPuzzle_1.f (k : Nat) (a0_0 : Int) (a0_1 : Int) (a0_2 : Int) : Option (Bool) := (impl_IsClue.f k a0_0 a0_1 a0_2).bind fun t265 => (some (!t265))
theorem impl_IsPuzzle_1.mono : ∀ a0 a1 a2 k, LeO (impl_IsPuzzle_1.f k a0 a1 a2) (impl_IsPuzzle_1.f (k + 1) a0 a1 a2) := by
 intro a0 a1 a2 k
 unfold impl_IsPuzzle_1.f
 have m1_ := @impl_IsClue.mono
 exact zM_
set_option maxHeartbeats 8000000 in
set_option maxRecDepth 100000 in
theorem impl_IsPuzzle_1.calls (k : Nat) (a0_0 : Int) (a0_1 : Int) (a0_2 : Int) (r : Bool) (w : World) (h : impl_IsPuzzle_1.f k a0_0 a0_1 a0_2 = some r) :
 Calls Tryz.prog 76 #[.agg #[.int .i64 a0_0, .int .i64 a0_1, .int .i64 a0_2]] w fun e w' => e = .returned (.bool r) ∧ Below w.heap.size w w' := by
 have hu37 := Tryz.underlying37
 have HB := Aside0.mk (Below.refl w.heap.size w)
 unfold impl_IsPuzzle_1.f at h
 have H := h
 clear h
 replace H := bd_ H; obtain ⟨t265, A2, H⟩ := H
 obtain rfl := Option.some.inj H
 go_enter Tryz.func76, Tryz.ntmps76
 go_wp2_with (first | (refine bx_ 1 #[.int .i64 a0_0, .int .i64 a0_1, .int .i64 a0_2] 37 ?_; intro gb264 hg w3 hbox hb; have BK264 := Aside0.mk (hbox); have GW264 : Aside0 (w.heap.size ≤ gb264) := bs_ hg zB_; have GE264 := GW264; replace HB := Aside0.mk (below_step zB_ hb); clear hb hbox hg; have hcz4_0 : w3.cell? ⟨gb264, 0, none⟩ = some (.int .i64 a0_0) := (blk_cell BK264.out 0).trans rfl; have hcz4_1 : w3.cell? ⟨gb264, 1, none⟩ = some (.int .i64 a0_1) := (blk_cell BK264.out 1).trans rfl; have hcz4_2 : w3.cell? ⟨gb264, 2, none⟩ = some (.int .i64 a0_2) := (blk_cell BK264.out 2).trans rfl; have hfz4_0 := blk_frozen BK264.out 0; have hfz4_1 := blk_frozen BK264.out 1; have hfz4_2 := blk_frozen BK264.out 2) | ((with_reducible refine gc_ 31 rfl ?_); refine gL_ 4 Tryz.func31 #[.agg #[.int .i64 a0_0, .int .i64 a0_1, .int .i64 a0_2]] ?_; (with_reducible refine (impl_IsClue.calls k a0_0 a0_1 a0_2 t265 _ A2.out).mono ?_); rintro e w5 ⟨rfl, hb⟩; refine ⟨_, rfl, ?_⟩; replace BK264 := bb_ BK264 (b_ BK264.out) hb; replace HB := Aside0.mk (below_step (by repeat (first | (with_reducible first | exact HB.out | apply below_alloc | apply pw_below_drewN | apply below_drew1 | refine below_set ?_ GE264.out) | exact HB.out)) hb)))
 go_ret
 exact ⟨zR_, by repeat (first | (with_reducible first | exact HB.out | apply below_alloc | apply pw_below_drewN | apply below_drew1 | refine below_set ?_ GE264.out) | exact HB.out)⟩

theorem z10_0_ {p : Prop} (h : p := by (try simp only [List.map_toArray, List.map_cons, List.map_nil]); first | done | rfl | (simp only [List.length_drop, List.length_take]; rfl)) : p := h
theorem z10_1_ {p : Prop} (h : p := by exact b_ BK266.out) : p := h
theorem z10_2_ {p : Prop} (h : p := by repeat (first | (with_reducible first | exact HK.out | apply KeepBut.set_ | apply keep_drewN | apply keep_drew | apply keep_alloc | refine keep_far ?_ GW266.out _ | refine keep_far ?_ GW279.out _) | exact HK.out)) : p := h
theorem z10_3_ {p : Prop} (h : p := by repeat (first | (with_reducible first | exact HK.out | apply KeepBut.set_ | apply keep_drewN | apply keep_drew | apply keep_alloc | refine keep_far ?_ GW298.out _) | exact HK.out)) : p := h
theorem z10_4_ {p : Prop} (h : p := by repeat (first | (with_reducible first | exact HK.out | apply KeepBut.set_ | apply keep_drewN | apply keep_drew | apply keep_alloc | refine keep_far ?_ GW266.out _) | exact HK.out)) : p := h
theorem z10_5_ {p : Prop} (h : p := by repeat (first | (with_reducible first | exact HK.out | apply KeepBut.set_ | apply keep_drewN | apply keep_drew | apply keep_alloc) | exact HK.out)) : p := h
theorem z10_6_ {p : Prop} (h : p := by exact b_ BK298.out) : p := h
theorem z10_7_ {p : Prop} (h : p := by exact b_ BK279.out) : p := h
theorem z10_8_ {p : Prop} (h : p := by repeat (first | (with_reducible first | exact HI0.out | apply IsS74.alloc | apply IsS74.drewN | apply IsS74.drew | apply IsS74.set_1 | apply IsS74.set_2 | refine IsS74.far ?_ NB0_298.out _) | exact HI0.out)) : p := h

/-! ### impl_IsPuzzle: function 14 -/
set_option maxHeartbeats 8000000 in
set_option maxRecDepth 100000 in
theorem slices_IndexFunc_clue (p : S37 → Option Bool) (g : FuncId) (fn : Func) (lb : Array Value) (A0 : Option Addr) (c0 : Nat) (l0 : List S37) (b : Bool) (w : World)
 (hr0 : Kd.C k37 w A0 l0.length l0) (hc0 : l0.length ≤ c0)
 (hf : Tryz.prog.funcs[g]? = some fn) (hname : (fn.name == "runtime.NumGoroutine") = false) (hb : fn.body.isSome = true)
 (hp : ∀ x t W, p x = some t → Below w.heap.size w W → Calls Tryz.prog g (#[.agg #[.int .i64 x.f0, .int .i64 x.f1, .int .i64 x.f2]] ++ lb) W fun e W' => e = .returned (.bool t) ∧ Below W.heap.size W W')
 (h : Fn.anyO p l0 = some b) :
 Calls Tryz.prog 105 #[.slice A0 l0.length c0, .func (.func g) #[] lb] w fun e w' => ∃ i : Int, e = .returned (.int .i64 i) ∧ Fn.idxOk b i ∧ Below w.heap.size w w' := by
 have hu := Tryz.underlying37
 have HL := Aside0.mk hr0.2.1
 have HR0 := Aside0.mk hr0
 have HC0 := Aside0.mk hc0
 have HP := Aside0.mk hp
 have HF := Aside0.mk hf
 have HN := Aside0.mk hname
 have HBD := Aside0.mk hb
 have H' := Aside0.mk (show Fn.anyO p (l0.drop 0) = some b from h)
 have HB := Aside0.mk (Below.refl w.heap.size w)
 clear hr0 hc0 hp hf hname hb h
 go_enter Tryz.func105, Tryz.ntmps105
 go_wp2
 go_loopg [8] (l0.length + 1) (fun kq v8 w' => ∃ j : Nat, v8 = .int .i64 (j : Int) ∧ Aside0 (j + kq = l0.length + 1) ∧ Aside0 (Fn.anyO p (l0.drop j) = some b) ∧ Aside0 (Below w.heap.size w w'))
 case atStart => exact ⟨0, rfl, ⟨by omega⟩, H', HB⟩
 case round =>
  clear H' HB
  obtain ⟨j, rfl, HJ, HA, HB⟩ := hrel
  by_cases c : j < l0.length
  · obtain ⟨t, ht, hb⟩ := Fn.anyO_drop p l0 z37 j c b HA.out
    have HT := Aside0.mk (show p (rd_T37 l0 (j : Int)) = some t from ht)
    have HBB := Aside0.mk hb
    clear ht hb HA
    have hl := HL.out
    obtain ⟨ad1, e1, hx0, hx1, hx2⟩ := at_T37 HR0.out (j : Int) (by omega) (by omega)
    cases e1
    simp only [Int.toNat_natCast] at hx0 hx1 hx2
    replace hx0 := (HB.out.cell (World.block_lt_of_cell? w _ hx0)).trans hx0
    replace hx1 := (HB.out.cell (World.block_lt_of_cell? w _ hx1)).trans hx1
    replace hx2 := (HB.out.cell (World.block_lt_of_cell? w _ hx2)).trans hx2
    have p1 : (0 ≤ (j : Int)) = True := eq_true (by omega)
    have q1 : ((j : Int) < (l0.length : Int)) = True := eq_true (by omega)
    have c1 : decide ((j : Int) < (l0.length : Int)) = true := decide_eq_true (by omega)
    have c2 : decide (j < l0.length) = true := decide_eq_true c
    cases t with
    | true =>
     go_wp2_with (first | ((with_reducible refine gate_dst (N := 16) rfl ?_); refine Fn.goesF_ (some 16) rfl rfl HF.out HN.out HBD.out #[.agg #[.int .i64 (rd_T37 l0 (j : Int)).f0, .int .i64 (rd_T37 l0 (j : Int)).f1, .int .i64 (rd_T37 l0 (j : Int)).f2]] rfl (by rfl) (by (try simp only [List.map_toArray, List.map_cons, List.map_nil]); rfl) ?_; (with_reducible refine (HP.out _ true _ HT.out HB.out).mono ?_); rintro e w11 ⟨rfl, hb⟩; refine ⟨_, rfl, ?_⟩; have HB2 := Aside0.mk (below_step HB.out hb); clear hb))
     go_ret
     have hbt : b = true := by
      rcases HBB.out with ⟨_, e⟩ | ⟨e, _⟩
      · exact e
      cases e
     exact ⟨_, rfl, Fn.idxOk_yes hbt (by omega), HB2.out⟩
    | false =>
     go_wp2_with (first | ((with_reducible refine gate_dst (N := 16) rfl ?_); refine Fn.goesF_ (some 16) rfl rfl HF.out HN.out HBD.out #[.agg #[.int .i64 (rd_T37 l0 (j : Int)).f0, .int .i64 (rd_T37 l0 (j : Int)).f1, .int .i64 (rd_T37 l0 (j : Int)).f2]] rfl (by rfl) (by (try simp only [List.map_toArray, List.map_cons, List.map_nil]); rfl) ?_; (with_reducible refine (HP.out _ false _ HT.out HB.out).mono ?_); rintro e w11 ⟨rfl, hb⟩; refine ⟨_, rfl, ?_⟩; have HB2 := Aside0.mk (below_step HB.out hb); clear hb))
     go_roundg (gk - 1)
     case measure => have := HJ.out; omega
     case rel =>
      have hnx : Fn.anyO p (l0.drop (j + 1)) = some b := by
       rcases HBB.out with ⟨e, _⟩ | ⟨_, h⟩
       · cases e
       exact h
      exact ⟨j + 1, by go_num, ⟨by have := HJ.out; omega⟩, ⟨hnx⟩, HB2⟩
  have c1 : decide ((j : Int) < (l0.length : Int)) = false := decide_eq_false (by omega)
  have c2 : decide (j < l0.length) = false := decide_eq_false c
  have hbf : b = false := by
   have h := HA.out
   rw [List.drop_eq_nil_of_le (by omega)] at h
   exact (Option.some.inj h).symm
  have HBF := Aside0.mk hbf
  clear hbf
  go_wp2
  go_ret
  exact ⟨_, rfl, Fn.idxOk_no HBF.out (by omega), HB.out⟩

set_option maxHeartbeats 8000000 in
set_option maxRecDepth 100000 in
theorem slices_ContainsFunc_clue (p : S37 → Option Bool) (g : FuncId) (fn : Func) (lb : Array Value) (A0 : Option Addr) (c0 : Nat) (l0 : List S37) (b : Bool) (w : World)
 (hr0 : Kd.C k37 w A0 l0.length l0) (hc0 : l0.length ≤ c0)
 (hf : Tryz.prog.funcs[g]? = some fn) (hname : (fn.name == "runtime.NumGoroutine") = false) (hb : fn.body.isSome = true)
 (hp : ∀ x t W, p x = some t → Below w.heap.size w W → Calls Tryz.prog g (#[.agg #[.int .i64 x.f0, .int .i64 x.f1, .int .i64 x.f2]] ++ lb) W fun e W' => e = .returned (.bool t) ∧ Below W.heap.size W W')
 (h : Fn.anyO p l0 = some b) :
 Calls Tryz.prog 75 #[.slice A0 l0.length c0, .func (.func g) #[] lb] w fun e w' => e = .returned (.bool b) ∧ Below w.heap.size w w' := by
 have HR0 := Aside0.mk hr0
 have HC0 := Aside0.mk hc0
 have HP := Aside0.mk hp
 have HF := Aside0.mk hf
 have HN := Aside0.mk hname
 have HBD := Aside0.mk hb
 have H := Aside0.mk h
 clear hr0 hc0 hp hf hname hb h
 cases b with
 | true =>
  go_enter Tryz.func75, Tryz.ntmps75
  go_wp2_with (first | (go_at_call 105; (with_reducible refine (slices_IndexFunc_clue p g fn lb A0 c0 l0 true w HR0.out HC0.out HF.out HN.out HBD.out HP.out H.out).mono ?_); rintro e w1 ⟨i, rfl, hi, hb⟩; have hi2 : 0 ≤ i := Fn.idxOk_true hi; clear hi; have hi3 : decide (0 ≤ i) = true := decide_eq_true hi2; have HB := Aside0.mk hb; clear hb))
  go_ret
  exact ⟨rfl, HB.out⟩
 | false =>
  go_enter Tryz.func75, Tryz.ntmps75
  go_wp2_with (first | (go_at_call 105; (with_reducible refine (slices_IndexFunc_clue p g fn lb A0 c0 l0 false w HR0.out HC0.out HF.out HN.out HBD.out HP.out H.out).mono ?_); rintro e w1 ⟨i, rfl, hi, hb⟩; have hi2 : i < 0 := Fn.idxOk_false hi; clear hi; have hi3 : decide (0 ≤ i) = false := decide_eq_false (by omega); have HB := Aside0.mk hb; clear hb))
  go_ret
  exact ⟨rfl, HB.out⟩
def impl_IsPuzzle.f (k : Nat) (l0_0 : List S37) : Option Bool := if (l0_0.length : Int) ≤ 6 then (Fn.anyO (fun x => impl_IsPuzzle_1.f k x.f0 x.f1 x.f2) l0_0).bind fun t => some (!t) else some false
theorem impl_IsPuzzle.mono : ∀ a0 k, LeO (impl_IsPuzzle.f k a0) (impl_IsPuzzle.f (k + 1) a0) := by
 intro a0 k r h
 unfold impl_IsPuzzle.f at h ⊢
 by_cases c : (a0.length : Int) ≤ 6
 · rw [if_pos c] at h ⊢
   obtain ⟨t, ht, h⟩ := Option.bind_eq_some_iff.mp h
   rw [Fn.anyO_le (fun x r hr => impl_IsPuzzle_1.mono _ _ _ _ r hr) a0 t ht]
   exact h
 rw [if_neg c] at h ⊢
 exact h
set_option maxHeartbeats 8000000 in
set_option maxRecDepth 100000 in
theorem impl_IsPuzzle.calls (k : Nat) (A0_0 : Option Addr) (c0_0 : Nat) (l0_0 : List (S37)) (r : Bool) (w : World) (hr0_0 : Kd.C k37 w A0_0 l0_0.length l0_0) (hc0_0 : l0_0.length ≤ c0_0) (h : impl_IsPuzzle.f k l0_0 = some r) :
 Calls Tryz.prog 14 #[.agg #[.slice A0_0 l0_0.length c0_0]] w fun e w' => e = .returned (.bool r) ∧ Below w.heap.size w w' := by
 have hu := Tryz.underlying28
 have HR0 := Aside0.mk hr0_0
 have HC0 := Aside0.mk hc0_0
 have HB := Aside0.mk (Below.refl w.heap.size w)
 have HP : Aside0 (∀ (x : S37) (t : Bool) (W : World), (fun x : S37 => impl_IsPuzzle_1.f k x.f0 x.f1 x.f2) x = some t → Calls Tryz.prog 76 (#[.agg #[.int .i64 x.f0, .int .i64 x.f1, .int .i64 x.f2]] ++ #[]) W fun e W' => e = .returned (.bool t) ∧ Below W.heap.size W W') := ⟨fun x t W hx => impl_IsPuzzle_1.calls k x.f0 x.f1 x.f2 t W hx⟩
 unfold impl_IsPuzzle.f at h
 by_cases c : (l0_0.length : Int) ≤ 6
 · rw [if_pos c] at h
   obtain ⟨t, ht, h⟩ := Option.bind_eq_some_iff.mp h
   obtain rfl := Option.some.inj h
   have HT := Aside0.mk ht
   have c1 : decide ((l0_0.length : Int) ≤ 6) = true := decide_eq_true c
   have c2 : decide (l0_0.length ≤ 6) = true := decide_eq_true (by omega)
   clear h ht hr0_0 hc0_0
   go_enter Tryz.func14, Tryz.ntmps14
   go_wp2_with (first | (refine bx_ 1 #[.slice A0_0 l0_0.length c0_0] 28 ?_; intro g1 hg w5 hbox hb; have HB1 := Aside0.mk (below_step HB.out hb); have hz : w5.cell? ⟨g1, 0, none⟩ = some (.slice A0_0 l0_0.length c0_0) := (blk_cell hbox 0).trans rfl; have HBW := Aside0.mk hb; clear hb hbox hg) | (go_at_call 75; (with_reducible refine (slices_ContainsFunc_clue (fun x => impl_IsPuzzle_1.f k x.f0 x.f1 x.f2) 76 _ #[] A0_0 c0_0 l0_0 t _ (Kd.C_below HR0.out HBW.out) HC0.out Tryz.func76 (by kernel_rfl) rfl (fun x t W hx _ => HP.out x t W hx) HT.out).mono ?_); rintro e w1 ⟨rfl, hb⟩; have HB2 := Aside0.mk (below_step HB1.out hb); clear hb))
   go_ret
   exact ⟨rfl, HB2.out⟩
 rw [if_neg c] at h
 obtain rfl := Option.some.inj h
 have c1 : decide ((l0_0.length : Int) ≤ 6) = false := decide_eq_false c
 have c2 : decide (l0_0.length ≤ 6) = false := decide_eq_false (by omega)
 clear h hr0_0 hc0_0
 go_enter Tryz.func14, Tryz.ntmps14
 go_wp2_with (first | (refine bx_ 1 #[.slice A0_0 l0_0.length c0_0] 28 ?_; intro g1 hg w5 hbox hb; have HB1 := Aside0.mk (below_step HB.out hb); have hz : w5.cell? ⟨g1, 0, none⟩ = some (.slice A0_0 l0_0.length c0_0) := (blk_cell hbox 0).trans rfl; clear hb hbox hg))
 go_ret
 exact ⟨rfl, HB1.out⟩

/-! ### spec_l1Cur_clue: function 84 -/
mutual
def spec_l1Cur_clue.j1 : Nat → List Int → Int → Int → Int → Int → Int → Option (Int × Int × Int × Int × Int)
 | 0, _, _, _, _, _, _ => none
 | k + 1, x1000, x1001, x1002, x280000, x280001, x280002 => if x280000 = 2 then (spec_l1Cur_clue.j2 k true x1000 x1001 x1002 x280000 x280001 x280002) else (spec_l1Cur_clue.j2 k (x280000 == 3) x1000 x1001 x1002 x280000 x280001 x280002)
def spec_l1Cur_clue.j2 : Nat → Bool → List Int → Int → Int → Int → Int → Int → Option (Int × Int × Int × Int × Int)
 | 0, _, _, _, _, _, _, _ => none
 | k + 1, x43, x1000, x1001, x1002, x280000, x280001, x280002 => if x43 = true then ((spec_l1Cur_pick.f x1000 x1001 x1002 3).bind fun bt289 => (spec_l1Cur_clue.j3 k x1000 bt289.2.1 bt289.2.2 x280000 x280001 bt289.1)) else (spec_l1Cur_clue.j3 k x1000 x1001 x1002 x280000 x280001 x280002)
def spec_l1Cur_clue.j3 : Nat → List Int → Int → Int → Int → Int → Int → Option (Int × Int × Int × Int × Int)
 | 0, _, _, _, _, _, _ => none
 | k + 1, x1000, x1001, x1002, x280000, x280001, x280002 => (spec_l1Cur_one.f x1000 x1001 x1002 14).bind fun bt292 => (if bt292.1 = true then ((spec_l1Cur_pick.f x1000 bt292.2.1 bt292.2.2 3).bind fun bt295 => (some (x280000, wrap64 (bt295.1 - 1), x280002, bt295.2.1, bt295.2.2))) else (some (x280000, x280001, x280002, bt292.2.1, bt292.2.2)))
def spec_l1Cur_clue.j0 : Nat → Int → Bool → List Int → Int → Int → Int → Int → Int → Option (Int × Int × Int × Int × Int)
 | 0, _, _, _, _, _, _, _, _ => none
 | k + 1, x18, x24, x1000, x1001, x1002, x280000, x280001, x280002 => if x24 = true then ((spec_l1Cur_pick.f x1000 x1001 x1002 5).bind fun bt283 => (spec_l1Cur_clue.j1 k x1000 bt283.2.1 bt283.2.2 x280000 bt283.1 x280002)) else (if x18 = 5 then ((spec_l1Cur_pick.f x1000 x1001 x1002 10).bind fun bt286 => (spec_l1Cur_clue.j1 k x1000 bt286.2.1 bt286.2.2 x280000 x280001 (wrap64 (1 + bt286.1)))) else (spec_l1Cur_clue.j1 k x1000 x1001 x1002 x280000 x280001 x280002))
end
def spec_l1Cur_clue.f (k : Nat) (s0_0 : List Int) (s0_1 : Int) (s0_2 : Int) : Option (Int × Int × Int × Int × Int) := (spec_l1Cur_pick.f s0_0 s0_1 s0_2 6).bind fun bt267 => ((spec_l1Cur_pick.f s0_0 bt267.2.1 bt267.2.2 9).bind fun bt270 => ((spec_l1Cur_pick.f s0_0 bt270.2.1 bt270.2.2 8).bind fun bt273 => ((spec_l1Cur_pick.f s0_0 bt273.2.1 bt273.2.2 9).bind fun bt276 => (if (wrap64 (bt267.1 + (wrap64 (Int.tdiv bt270.1 8)))) = 0 then ((spec_l1Cur_pick.f s0_0 bt276.2.1 bt276.2.2 3).bind fun bt280 => (spec_l1Cur_clue.j1 k s0_0 bt280.2.1 bt280.2.2 (wrap64 (bt267.1 + (wrap64 (Int.tdiv bt270.1 8)))) bt280.1 (wrap64 (bt273.1 - (wrap64 (Int.tdiv bt276.1 8)))))) else (if (wrap64 (bt267.1 + (wrap64 (Int.tdiv bt270.1 8)))) = 1 then (spec_l1Cur_clue.j0 k (wrap64 (bt267.1 + (wrap64 (Int.tdiv bt270.1 8)))) ((wrap64 (bt267.1 + (wrap64 (Int.tdiv bt270.1 8)))) == 1) s0_0 bt276.2.1 bt276.2.2 (wrap64 (bt267.1 + (wrap64 (Int.tdiv bt270.1 8)))) 0 (wrap64 (bt273.1 - (wrap64 (Int.tdiv bt276.1 8))))) else (spec_l1Cur_clue.j0 k (wrap64 (bt267.1 + (wrap64 (Int.tdiv bt270.1 8)))) ((wrap64 (bt267.1 + (wrap64 (Int.tdiv bt270.1 8)))) == 3) s0_0 bt276.2.1 bt276.2.2 (wrap64 (bt267.1 + (wrap64 (Int.tdiv bt270.1 8)))) 0 (wrap64 (bt273.1 - (wrap64 (Int.tdiv bt276.1 8))))))))))
theorem spec_l1Cur_clue.mono_l : ∀ k, (∀ y0 y1 y2 y3 y4 y5, LeO (spec_l1Cur_clue.j1 k y0 y1 y2 y3 y4 y5) (spec_l1Cur_clue.j1 (k + 1) y0 y1 y2 y3 y4 y5)) ∧ (∀ y0 y1 y2 y3 y4 y5 y6, LeO (spec_l1Cur_clue.j2 k y0 y1 y2 y3 y4 y5 y6) (spec_l1Cur_clue.j2 (k + 1) y0 y1 y2 y3 y4 y5 y6)) ∧ (∀ y0 y1 y2 y3 y4 y5, LeO (spec_l1Cur_clue.j3 k y0 y1 y2 y3 y4 y5) (spec_l1Cur_clue.j3 (k + 1) y0 y1 y2 y3 y4 y5)) ∧ (∀ y0 y1 y2 y3 y4 y5 y6 y7, LeO (spec_l1Cur_clue.j0 k y0 y1 y2 y3 y4 y5 y6 y7) (spec_l1Cur_clue.j0 (k + 1) y0 y1 y2 y3 y4 y5 y6 y7))
 | 0 => ⟨fun _ _ _ _ _ _ r h => by simp [spec_l1Cur_clue.j1] at h, fun _ _ _ _ _ _ _ r h => by simp [spec_l1Cur_clue.j2] at h, fun _ _ _ _ _ _ r h => by simp [spec_l1Cur_clue.j3] at h, fun _ _ _ _ _ _ _ _ r h => by simp [spec_l1Cur_clue.j0] at h⟩
 | k + 1 => by
  obtain ⟨ih0, ih1, ih2, ih3⟩ := spec_l1Cur_clue.mono_l k
  refine ⟨?_, ?_, ?_, ?_⟩
  · intro y0 y1 y2 y3 y4 y5
    unfold spec_l1Cur_clue.j1
    repeat' first
    | (with_reducible exact ih0 _ _ _ _ _ _)
    | (with_reducible exact ih1 _ _ _ _ _ _ _)
    | (with_reducible exact ih2 _ _ _ _ _ _)
    | (with_reducible exact ih3 _ _ _ _ _ _ _ _)
    | (with_reducible exact LeO.refl _)
    | (with_reducible exact LeO.none _)
    | (with_reducible refine LeO.ite ?_ ?_)
    | (with_reducible refine LeO.bind ?_ (fun _ => ?_))
    | exact LeO.none _
    | refine LeO.ite ?_ ?_
    | refine LeO.bind ?_ (fun _ => ?_)
  · intro y0 y1 y2 y3 y4 y5 y6
    unfold spec_l1Cur_clue.j2
    repeat' first
    | (with_reducible exact ih0 _ _ _ _ _ _)
    | (with_reducible exact ih1 _ _ _ _ _ _ _)
    | (with_reducible exact ih2 _ _ _ _ _ _)
    | (with_reducible exact ih3 _ _ _ _ _ _ _ _)
    | (with_reducible exact LeO.refl _)
    | (with_reducible exact LeO.none _)
    | (with_reducible refine LeO.ite ?_ ?_)
    | (with_reducible refine LeO.bind ?_ (fun _ => ?_))
    | exact LeO.none _
    | refine LeO.ite ?_ ?_
    | refine LeO.bind ?_ (fun _ => ?_)
  · intro y0 y1 y2 y3 y4 y5
    unfold spec_l1Cur_clue.j3
    repeat' first
    | (with_reducible exact ih0 _ _ _ _ _ _)
    | (with_reducible exact ih1 _ _ _ _ _ _ _)
    | (with_reducible exact ih2 _ _ _ _ _ _)
    | (with_reducible exact ih3 _ _ _ _ _ _ _ _)
    | (with_reducible exact LeO.refl _)
    | (with_reducible exact LeO.none _)
    | (with_reducible refine LeO.ite ?_ ?_)
    | (with_reducible refine LeO.bind ?_ (fun _ => ?_))
    | exact LeO.none _
    | refine LeO.ite ?_ ?_
    | refine LeO.bind ?_ (fun _ => ?_)
  intro y0 y1 y2 y3 y4 y5 y6 y7
  unfold spec_l1Cur_clue.j0
  repeat' first
  | (with_reducible exact ih0 _ _ _ _ _ _)
  | (with_reducible exact ih1 _ _ _ _ _ _ _)
  | (with_reducible exact ih2 _ _ _ _ _ _)
  | (with_reducible exact ih3 _ _ _ _ _ _ _ _)
  | (with_reducible exact LeO.refl _)
  | (with_reducible exact LeO.none _)
  | (with_reducible refine LeO.ite ?_ ?_)
  | (with_reducible refine LeO.bind ?_ (fun _ => ?_))
  | exact LeO.none _
  | refine LeO.ite ?_ ?_
  | refine LeO.bind ?_ (fun _ => ?_)
theorem spec_l1Cur_clue.mono : ∀ a0 a1 a2 k, LeO (spec_l1Cur_clue.f k a0 a1 a2) (spec_l1Cur_clue.f (k + 1) a0 a1 a2) := by
 intro a0 a1 a2 k
 obtain ⟨ih0, ih1, ih2, ih3⟩ := spec_l1Cur_clue.mono_l k
 unfold spec_l1Cur_clue.f
 repeat' first
  | (with_reducible exact ih0 _ _ _ _ _ _)
  | (with_reducible exact ih1 _ _ _ _ _ _ _)
  | (with_reducible exact ih2 _ _ _ _ _ _)
  | (with_reducible exact ih3 _ _ _ _ _ _ _ _)
  | (with_reducible exact LeO.refl _)
  | (with_reducible exact LeO.none _)
  | (with_reducible refine LeO.ite ?_ ?_)
  | (with_reducible refine LeO.bind ?_ (fun _ => ?_))
  | exact LeO.none _
  | refine LeO.ite ?_ ?_
  | refine LeO.bind ?_ (fun _ => ?_)
set_option maxHeartbeats 8000000 in
set_option maxRecDepth 100000 in
theorem spec_l1Cur_clue.calls (k : Nat) (g : Nat) (s0_0 : List Int) (s0_1 : Int) (s0_2 : Int) (r1 : Int) (r2 : Int) (r3 : Int) (r4 : Int) (r5 : Int) (w0 w : World) (hI : IsS74 w0 w g s0_0 s0_1 s0_2) (hB : Below w0.heap.size w0 w) (h : spec_l1Cur_clue.f k s0_0 s0_1 s0_2 = some (r1, r2, r3, r4, r5)) :
 Calls Tryz.prog 84 #[.pointer (some ⟨g, 0, none⟩)] w fun e w' => e = .returned (.agg #[.int .i64 r1, .int .i64 r2, .int .i64 r3]) ∧ IsS74 w0 w' g s0_0 r4 r5 ∧ Below w0.heap.size w0 w' ∧ KeepBut w w' g none := by
 have hu37 := Tryz.underlying37
 have HI0 := Aside0.mk hI
 have HK := Aside0.mk (KeepBut.refl w g none)
 have HL := Aside0.mk hB.size
 clear hI
 have HW0 := Aside0.mk hB.size
 have HB := Aside0.mk hB
 clear hB
 unfold spec_l1Cur_clue.f at h
 have H := h
 clear h
 replace H := bd_ H; obtain ⟨⟨t267, t268, t269⟩, A2, H⟩ := H
 dsimp only at H
 replace H := bd_ H; obtain ⟨⟨t270, t271, t272⟩, A3, H⟩ := H
 dsimp only at H
 replace H := bd_ H; obtain ⟨⟨t273, t274, t275⟩, A4, H⟩ := H
 dsimp only at H
 replace H := bd_ H; obtain ⟨⟨t276, t277, t278⟩, A5, H⟩ := H
 dsimp only at H
 have HC6 := Aside0.mk H
 clear H
 go_enter Tryz.func84, Tryz.ntmps84
 go_upto_block 0 with (first | (refine bx_ 2 #[.int .i64 0, .int .i64 0, .int .i64 0] 37 ?_; intro gb266 hg w7 hbox hb; replace HB := Aside0.mk (below_step (by repeat (first | (with_reducible first | exact HB.out | apply below_alloc | apply pw_below_drewN | apply below_drew1 | refine below_set ?_ (IsS74.ge HI0.out)) | exact HB.out)) hb); have BK266 := Aside0.mk (hbox); have GW266 := Aside0.mk ((by rw [hg]; exact (keep_size (w := w) (g := g) (row := none) z10_5_) : w.heap.size ≤ gb266)); have GE266 := Aside0.mk ((Nat.le_trans HW0.out (by rw [hg]; exact (keep_size (w := w) (g := g) (row := none) z10_5_) : w.heap.size ≤ gb266) : w0.heap.size ≤ gb266)); replace HK := Aside0.mk (KeepBut.trans z10_5_ (KeepBut.of_below hb g none) (.inl rfl)); have NB0_266 := Aside0.mk ((by rw [hg]; exact Nat.ne_of_lt (IsS74.lt (show IsS74 w0 _ g s0_0 s0_1 s0_2 from by repeat (first | (with_reducible first | exact HI0.out | apply IsS74.alloc | apply IsS74.drewN | apply IsS74.drew | apply IsS74.set_1 | apply IsS74.set_2) | exact HI0.out))) : g ≠ gb266)); have NB266_0 := Aside0.mk ((by rw [hg]; exact Nat.ne_of_gt (IsS74.lt (show IsS74 w0 _ g s0_0 s0_1 s0_2 from by repeat (first | (with_reducible first | exact HI0.out | apply IsS74.alloc | apply IsS74.drewN | apply IsS74.drew | apply IsS74.set_1 | apply IsS74.set_2) | exact HI0.out))) : gb266 ≠ g)); replace HI0 := Aside0.mk (IsS74.below zq11_0_ hb); clear hb hbox hg) | ((with_reducible refine gc_ 61 rfl ?_); refine gL_ 5 Tryz.func61 #[.pointer (some ⟨g, 0, none⟩), .int .i64 6] ?_; (with_reducible refine (spec_l1Cur_pick.calls g s0_0 s0_1 s0_2 6 t267 t268 t269 w0 _ ?side1 ?side2 A2.out).mono ?_); (case side1 => exact zc11_4_); (case side2 => exact zc11_6_); rintro e w8 ⟨rfl, hi, hb, hk⟩; refine ⟨_, rfl, ?_⟩; replace BK266 := Aside0.mk (KeepBut.blk hk (g' := gb266) (o := .cells #[.int .i64 0, .int .i64 0, .int .i64 0] 37 (0, 0)) z10_1_ NB266_0.out (by simp)); replace HK := Aside0.mk (KeepBut.trans z10_4_ hk (.inl rfl)); replace HB := Aside0.mk (hb); replace HI0 := Aside0.mk (hi)) | ((with_reducible refine gc_ 61 rfl ?_); refine gL_ 7 Tryz.func61 #[.pointer (some ⟨g, 0, none⟩), .int .i64 9] ?_; (with_reducible refine (spec_l1Cur_pick.calls g s0_0 t268 t269 9 t270 t271 t272 w0 _ ?side1 ?side2 A3.out).mono ?_); (case side1 => exact zc11_4_); (case side2 => exact zc11_6_); rintro e w9 ⟨rfl, hi, hb, hk⟩; refine ⟨_, rfl, ?_⟩; replace BK266 := Aside0.mk (KeepBut.blk hk (g' := gb266) (o := .cells #[.int .i64 0, .int .i64 0, .int .i64 0] 37 (0, 0)) z10_1_ NB266_0.out (by simp)); replace HK := Aside0.mk (KeepBut.trans z10_4_ hk (.inl rfl)); replace HB := Aside0.mk (hb); replace HI0 := Aside0.mk (hi)) | ((with_reducible refine gc_ 61 rfl ?_); refine gL_ 11 Tryz.func61 #[.pointer (some ⟨g, 0, none⟩), .int .i64 8] ?_; (with_reducible refine (spec_l1Cur_pick.calls g s0_0 t271 t272 8 t273 t274 t275 w0 _ ?side1 ?side2 A4.out).mono ?_); (case side1 => exact zc11_4_); (case side2 => exact zc11_6_); rintro e w10 ⟨rfl, hi, hb, hk⟩; refine ⟨_, rfl, ?_⟩; replace BK266 := Aside0.mk (KeepBut.blk hk (g' := gb266) (o := .cells #[.int .i64 0, .int .i64 0, .int .i64 0] 37 (0, 0)) z10_1_ NB266_0.out (by simp)); replace HK := Aside0.mk (KeepBut.trans z10_4_ hk (.inl rfl)); replace HB := Aside0.mk (hb); replace HI0 := Aside0.mk (hi)) | ((with_reducible refine gc_ 61 rfl ?_); refine gL_ 13 Tryz.func61 #[.pointer (some ⟨g, 0, none⟩), .int .i64 9] ?_; (with_reducible refine (spec_l1Cur_pick.calls g s0_0 t274 t275 9 t276 t277 t278 w0 _ ?side1 ?side2 A5.out).mono ?_); (case side1 => exact zc11_4_); (case side2 => exact zc11_6_); rintro e w11 ⟨rfl, hi, hb, hk⟩; refine ⟨_, rfl, ?_⟩; replace BK266 := Aside0.mk (KeepBut.blk hk (g' := gb266) (o := .cells #[.int .i64 0, .int .i64 0, .int .i64 0] 37 (0, 0)) z10_1_ NB266_0.out (by simp)); replace HK := Aside0.mk (KeepBut.trans z10_4_ hk (.inl rfl)); replace HB := Aside0.mk (hb); replace HI0 := Aside0.mk (hi)) | (refine bx_ 3 #[.int .i64 0, .int .i64 0, .int .i64 0] 37 ?_; intro gb279 hg w12 hbox hb; replace HB := Aside0.mk (below_step (by repeat (first | (with_reducible first | exact HB.out | apply below_alloc | apply pw_below_drewN | apply below_drew1 | refine below_set ?_ (IsS74.ge HI0.out) | refine below_set ?_ GE266.out) | exact HB.out)) hb); have BK279 := Aside0.mk (hbox); have GW279 := Aside0.mk ((by rw [hg]; exact (keep_size (w := w) (g := g) (row := none) z10_4_) : w.heap.size ≤ gb279)); have GE279 := Aside0.mk ((Nat.le_trans HW0.out (by rw [hg]; exact (keep_size (w := w) (g := g) (row := none) z10_4_) : w.heap.size ≤ gb279) : w0.heap.size ≤ gb279)); replace HK := Aside0.mk (KeepBut.trans z10_4_ (KeepBut.of_below hb g none) (.inl rfl)); have NB266_279 := nl_ BK266 z10_1_ hg; have NB279_266 := ns_ NB266_279; replace BK266 := bb_ BK266 z10_1_ hb; have NB0_279 := Aside0.mk ((by rw [hg]; exact Nat.ne_of_lt (IsS74.lt (show IsS74 w0 _ g s0_0 t277 t278 from by repeat (first | (with_reducible first | exact HI0.out | apply IsS74.alloc | apply IsS74.drewN | apply IsS74.drew | apply IsS74.set_1 | apply IsS74.set_2 | refine IsS74.far ?_ NB0_266.out _) | exact HI0.out))) : g ≠ gb279)); have NB279_0 := Aside0.mk ((by rw [hg]; exact Nat.ne_of_gt (IsS74.lt (show IsS74 w0 _ g s0_0 t277 t278 from by repeat (first | (with_reducible first | exact HI0.out | apply IsS74.alloc | apply IsS74.drewN | apply IsS74.drew | apply IsS74.set_1 | apply IsS74.set_2 | refine IsS74.far ?_ NB0_266.out _) | exact HI0.out))) : gb279 ≠ g)); replace HI0 := Aside0.mk (IsS74.below (by repeat (first | (with_reducible first | exact HI0.out | apply IsS74.alloc | apply IsS74.drewN | apply IsS74.drew | apply IsS74.set_1 | apply IsS74.set_2 | refine IsS74.far ?_ NB0_266.out _) | exact HI0.out)) hb); clear hb hbox hg; have hnb13 := NB279_266.out; have hnc13 := NB266_279.out; have hnb14 := NB279_0.out; have hnc14 := NB0_279.out; have hcz15_0 : w12.cell? ⟨gb279, 0, none⟩ = some (.int .i64 0) := (blk_cell BK279.out 0).trans rfl; have hcz15_1 : w12.cell? ⟨gb279, 1, none⟩ = some (.int .i64 0) := (blk_cell BK279.out 1).trans rfl; have hcz15_2 : w12.cell? ⟨gb279, 2, none⟩ = some (.int .i64 0) := (blk_cell BK279.out 2).trans rfl; have hfz15_0 := blk_frozen BK279.out 0; have hfz15_1 := blk_frozen BK279.out 1; have hfz15_2 := blk_frozen BK279.out 2))
 (try simp only [Act.put, List.setIfInBounds_toArray, List.set_cons_zero, List.set_cons_succ])
 go_cut [] (fun wc => ∃ (kq : Nat) (x1001_5 : Int) (x1002_5 : Int) (x280001_5 : Int) (x280002_5 : Int), Aside0 (spec_l1Cur_clue.j1 kq s0_0 x1001_5 x1002_5 (wrap64 (t267 + (wrap64 (Int.tdiv t270 8)))) x280001_5 x280002_5 = some (r1, r2, r3, r4, r5)) ∧ Aside0 (kq ≤ k) ∧ Aside0 (wc.heap[gb266]? = some (.cells #[.int .i64 0, .int .i64 0, .int .i64 0] 37 (0, 0))) ∧ Aside0 (wc.heap[gb279]? = some (.cells #[.int .i64 (wrap64 (t267 + (wrap64 (Int.tdiv t270 8)))), .int .i64 x280001_5, .int .i64 x280002_5] 37 (0, 0))) ∧ Aside0 (IsS74 w0 wc g s0_0 x1001_5 x1002_5) ∧ Aside0 (KeepBut w wc g none) ∧ Aside0 (Below w0.heap.size w0 wc))
 case first =>
  have H := HC6.out
  clear HC6
  by_cases c16 : (wrap64 (t267 + (wrap64 (Int.tdiv t270 8)))) = 0
  · obtain ⟨H, c16b0, c16b1⟩ := ep_ c16 H
    clear c16
    (first | rw [c16b0] | (simp only [i64_w, i32_w]; rw [c16b0]) | skip)
    replace H := bd_ H; obtain ⟨⟨t280, t281, t282⟩, A17, H⟩ := H
    dsimp only at H
    have H' := Aside0.mk H
    clear H
    go_wp2_with (first | ((with_reducible refine gc_ 61 rfl ?_); refine gL_ 22 Tryz.func61 #[.pointer (some ⟨g, 0, none⟩), .int .i64 3] ?_; (with_reducible refine (spec_l1Cur_pick.calls g s0_0 t277 t278 3 t280 t281 t282 w0 _ ?side1 ?side2 A17.out).mono ?_); (case side1 => exact zc11_0_); (case side2 => exact zc11_2_); rintro e w18 ⟨rfl, hi, hb, hk⟩; refine ⟨_, rfl, ?_⟩; replace BK266 := Aside0.mk (KeepBut.blk hk (g' := gb266) (o := .cells #[.int .i64 0, .int .i64 0, .int .i64 0] 37 (0, 0)) (by refine b_ ?_; refine blk_far ?_ NB266_279.out _; refine b_ ?_; refine blk_far ?_ NB266_279.out _; refine b_ ?_; refine blk_far ?_ NB266_279.out _; exact b_ BK266.out) NB266_0.out (by simp)); replace BK279 := Aside0.mk (KeepBut.blk hk (g' := gb279) (o := .cells #[.int .i64 (wrap64 (t267 + (wrap64 (Int.tdiv t270 8)))), .int .i64 0, .int .i64 (wrap64 (t273 - (wrap64 (Int.tdiv t276 8))))] 37 (0, 0)) (by refine b_ ?_; refine blk_put (cs := #[.int .i64 (wrap64 (t267 + (wrap64 (Int.tdiv t270 8)))), .int .i64 0, .int .i64 0]) ?_ 2 _ rfl; refine b_ ?_; refine blk_put (cs := #[.int .i64 (wrap64 (t267 + (wrap64 (Int.tdiv t270 8)))), .int .i64 0, .int .i64 0]) ?_ 1 _ rfl; refine b_ ?_; refine blk_put (cs := #[.int .i64 0, .int .i64 0, .int .i64 0]) ?_ 0 _ rfl; exact b_ BK279.out) NB279_0.out (by simp)); replace HK := Aside0.mk (KeepBut.trans z10_2_ hk (.inl rfl)); replace HB := Aside0.mk (hb); replace HI0 := Aside0.mk (hi); have hnb19 := NB279_266.out; have hnc19 := NB266_279.out; have hnb20 := NB279_0.out; have hnc20 := NB0_279.out; have hcz21_0 : w18.cell? ⟨gb279, 0, none⟩ = some (.int .i64 (wrap64 (t267 + (wrap64 (Int.tdiv t270 8))))) := (blk_cell BK279.out 0).trans rfl; have hcz21_1 : w18.cell? ⟨gb279, 1, none⟩ = some (.int .i64 0) := (blk_cell BK279.out 1).trans rfl; have hcz21_2 : w18.cell? ⟨gb279, 2, none⟩ = some (.int .i64 (wrap64 (t273 - (wrap64 (Int.tdiv t276 8))))) := (blk_cell BK279.out 2).trans rfl; have hfz21_0 := blk_frozen BK279.out 0; have hfz21_1 := blk_frozen BK279.out 1; have hfz21_2 := blk_frozen BK279.out 2))
    go_meet
    case rel => exact ⟨_, (t281), (t282), (t280), (wrap64 (t273 - (wrap64 (Int.tdiv t276 8)))), H', ⟨by first | omega | exact Nat.le_refl _⟩, ⟨by refine b_ ?_; refine blk_far ?_ NB266_279.out _; exact b_ BK266.out⟩, ⟨by refine b_ ?_; refine blk_put (cs := #[.int .i64 (wrap64 (t267 + (wrap64 (Int.tdiv t270 8)))), .int .i64 0, .int .i64 (wrap64 (t273 - (wrap64 (Int.tdiv t276 8))))]) ?_ 1 _ rfl; exact b_ BK279.out⟩, ⟨by repeat (first | (with_reducible first | exact HI0.out | apply IsS74.alloc | apply IsS74.drewN | apply IsS74.drew | apply IsS74.set_1 | apply IsS74.set_2 | refine IsS74.far ?_ NB0_266.out _ | refine IsS74.far ?_ NB0_279.out _) | exact HI0.out)⟩, ⟨by repeat (first | (with_reducible first | exact HK.out | apply KeepBut.set_ | apply keep_drewN | apply keep_drew | apply keep_alloc | refine keep_far ?_ GW266.out _ | refine keep_far ?_ GW279.out _) | exact HK.out)⟩, ⟨by repeat (first | (with_reducible first | exact HB.out | apply below_alloc | apply pw_below_drewN | apply below_drew1 | refine below_set ?_ (IsS74.ge HI0.out) | refine below_set ?_ GE266.out | refine below_set ?_ GE279.out) | exact HB.out)⟩⟩
  obtain ⟨H, c16b0, c16b1⟩ := en_ c16 H
  (first | rw [c16b0] | (simp only [i64_w, i32_w]; rw [c16b0]) | skip)
  have HC22 := Aside0.mk H
  clear H
  go_upto_if 24 with (fail)
  go_cut [24] (fun v24 wc => ∃ (kq : Nat) (x24_21 : Bool), v24 = .bool x24_21 ∧ Aside0 (spec_l1Cur_clue.j0 kq (wrap64 (t267 + (wrap64 (Int.tdiv t270 8)))) x24_21 s0_0 t277 t278 (wrap64 (t267 + (wrap64 (Int.tdiv t270 8)))) 0 (wrap64 (t273 - (wrap64 (Int.tdiv t276 8)))) = some (r1, r2, r3, r4, r5)) ∧ Aside0 (kq ≤ k) ∧ Aside0 (wc.heap[gb266]? = some (.cells #[.int .i64 0, .int .i64 0, .int .i64 0] 37 (0, 0))) ∧ Aside0 (wc.heap[gb279]? = some (.cells #[.int .i64 (wrap64 (t267 + (wrap64 (Int.tdiv t270 8)))), .int .i64 0, .int .i64 (wrap64 (t273 - (wrap64 (Int.tdiv t276 8))))] 37 (0, 0))) ∧ Aside0 (IsS74 w0 wc g s0_0 t277 t278) ∧ Aside0 (KeepBut w wc g none) ∧ Aside0 (Below w0.heap.size w0 wc))
  case first =>
   have H := HC22.out
   clear HC22
   by_cases c23 : (wrap64 (t267 + (wrap64 (Int.tdiv t270 8)))) = 1
   · obtain ⟨H, c23b0, c23b1⟩ := ep_ c23 H
     clear c23
     (first | rw [c23b0] | (simp only [i64_w, i32_w]; rw [c23b0]) | skip)
     have H' := Aside0.mk H
     clear H
     go_wp2
     go_meet
     case rel => exact ⟨_, (((wrap64 (t267 + (wrap64 (Int.tdiv t270 8)))) == 1)), zV_, H', ⟨by first | omega | exact Nat.le_refl _⟩, ⟨by refine b_ ?_; refine blk_far ?_ NB266_279.out _; refine b_ ?_; refine blk_far ?_ NB266_279.out _; refine b_ ?_; refine blk_far ?_ NB266_279.out _; exact b_ BK266.out⟩, ⟨by refine b_ ?_; refine blk_put (cs := #[.int .i64 (wrap64 (t267 + (wrap64 (Int.tdiv t270 8)))), .int .i64 0, .int .i64 0]) ?_ 2 _ rfl; refine b_ ?_; refine blk_put (cs := #[.int .i64 (wrap64 (t267 + (wrap64 (Int.tdiv t270 8)))), .int .i64 0, .int .i64 0]) ?_ 1 _ rfl; refine b_ ?_; refine blk_put (cs := #[.int .i64 0, .int .i64 0, .int .i64 0]) ?_ 0 _ rfl; exact b_ BK279.out⟩, ⟨by repeat (first | (with_reducible first | exact HI0.out | apply IsS74.alloc | apply IsS74.drewN | apply IsS74.drew | apply IsS74.set_1 | apply IsS74.set_2 | refine IsS74.far ?_ NB0_266.out _ | refine IsS74.far ?_ NB0_279.out _) | exact HI0.out)⟩, ⟨by repeat (first | (with_reducible first | exact HK.out | apply KeepBut.set_ | apply keep_drewN | apply keep_drew | apply keep_alloc | refine keep_far ?_ GW266.out _ | refine keep_far ?_ GW279.out _) | exact HK.out)⟩, ⟨by repeat (first | (with_reducible first | exact HB.out | apply below_alloc | apply pw_below_drewN | apply below_drew1 | refine below_set ?_ (IsS74.ge HI0.out) | refine below_set ?_ GE266.out | refine below_set ?_ GE279.out) | exact HB.out)⟩⟩
   obtain ⟨H, c23b0, c23b1⟩ := en_ c23 H
   (first | rw [c23b0] | (simp only [i64_w, i32_w]; rw [c23b0]) | skip)
   have H' := Aside0.mk H
   clear H
   go_wp2
   go_meet
   case rel => exact ⟨_, (((wrap64 (t267 + (wrap64 (Int.tdiv t270 8)))) == 3)), zV_, H', ⟨by first | omega | exact Nat.le_refl _⟩, ⟨by refine b_ ?_; refine blk_far ?_ NB266_279.out _; refine b_ ?_; refine blk_far ?_ NB266_279.out _; refine b_ ?_; refine blk_far ?_ NB266_279.out _; exact b_ BK266.out⟩, ⟨by refine b_ ?_; refine blk_put (cs := #[.int .i64 (wrap64 (t267 + (wrap64 (Int.tdiv t270 8)))), .int .i64 0, .int .i64 0]) ?_ 2 _ rfl; refine b_ ?_; refine blk_put (cs := #[.int .i64 (wrap64 (t267 + (wrap64 (Int.tdiv t270 8)))), .int .i64 0, .int .i64 0]) ?_ 1 _ rfl; refine b_ ?_; refine blk_put (cs := #[.int .i64 0, .int .i64 0, .int .i64 0]) ?_ 0 _ rfl; exact b_ BK279.out⟩, ⟨by repeat (first | (with_reducible first | exact HI0.out | apply IsS74.alloc | apply IsS74.drewN | apply IsS74.drew | apply IsS74.set_1 | apply IsS74.set_2 | refine IsS74.far ?_ NB0_266.out _ | refine IsS74.far ?_ NB0_279.out _) | exact HI0.out)⟩, ⟨by repeat (first | (with_reducible first | exact HK.out | apply KeepBut.set_ | apply keep_drewN | apply keep_drew | apply keep_alloc | refine keep_far ?_ GW266.out _ | refine keep_far ?_ GW279.out _) | exact HK.out)⟩, ⟨by repeat (first | (with_reducible first | exact HB.out | apply below_alloc | apply pw_below_drewN | apply below_drew1 | refine below_set ?_ (IsS74.ge HI0.out) | refine below_set ?_ GE266.out | refine below_set ?_ GE279.out) | exact HB.out)⟩⟩
  case rest =>
   clear HC22
   obtain ⟨kq, x24_21, rfl, HA, HJ21, BK266, BK279, HI0, HK, HB⟩ := hcut
   cases kq with
   | zero => exact absurd HA.out (by simp [spec_l1Cur_clue.j0])
   | succ kj21 =>
    have H := HA.out
    clear HA
    simp only [spec_l1Cur_clue.j0] at H
    by_cases c24 : x24_21 = true
    · subst c24
      rw [if_pos rfl] at H
      replace H := bd_ H; obtain ⟨⟨t283, t284, t285⟩, A25, H⟩ := H
      dsimp only at H
      have H' := Aside0.mk H
      clear H
      go_wp2_with (first | ((with_reducible refine gc_ 61 rfl ?_); refine gL_ 28 Tryz.func61 #[.pointer (some ⟨g, 0, none⟩), .int .i64 5] ?_; (with_reducible refine (spec_l1Cur_pick.calls g s0_0 t277 t278 5 t283 t284 t285 w0 _ ?side1 ?side2 A25.out).mono ?_); (case side1 => exact zc11_0_); (case side2 => exact zc11_2_); rintro e w26 ⟨rfl, hi, hb, hk⟩; refine ⟨_, rfl, ?_⟩; replace BK266 := Aside0.mk (KeepBut.blk hk (g' := gb266) (o := .cells #[.int .i64 0, .int .i64 0, .int .i64 0] 37 (0, 0)) z10_1_ NB266_0.out (by simp)); replace BK279 := Aside0.mk (KeepBut.blk hk (g' := gb279) (o := .cells #[.int .i64 (wrap64 (t267 + (wrap64 (Int.tdiv t270 8)))), .int .i64 0, .int .i64 (wrap64 (t273 - (wrap64 (Int.tdiv t276 8))))] 37 (0, 0)) z10_7_ NB279_0.out (by simp)); replace HK := Aside0.mk (KeepBut.trans z10_2_ hk (.inl rfl)); replace HB := Aside0.mk (hb); replace HI0 := Aside0.mk (hi); have hnb27 := NB279_266.out; have hnc27 := NB266_279.out; have hnb28 := NB279_0.out; have hnc28 := NB0_279.out; have hcz29_0 : w26.cell? ⟨gb279, 0, none⟩ = some (.int .i64 (wrap64 (t267 + (wrap64 (Int.tdiv t270 8))))) := (blk_cell BK279.out 0).trans rfl; have hcz29_1 : w26.cell? ⟨gb279, 1, none⟩ = some (.int .i64 0) := (blk_cell BK279.out 1).trans rfl; have hcz29_2 : w26.cell? ⟨gb279, 2, none⟩ = some (.int .i64 (wrap64 (t273 - (wrap64 (Int.tdiv t276 8))))) := (blk_cell BK279.out 2).trans rfl; have hfz29_0 := blk_frozen BK279.out 0; have hfz29_1 := blk_frozen BK279.out 1; have hfz29_2 := blk_frozen BK279.out 2))
      go_meet
      case rel => exact ⟨_, (t284), (t285), (t283), ((wrap64 (t273 - (wrap64 (Int.tdiv t276 8))))), H', ⟨by have := HJ21.out; first | omega | exact Nat.le_refl _⟩, ⟨by refine b_ ?_; refine blk_far ?_ NB266_279.out _; exact b_ BK266.out⟩, ⟨by refine b_ ?_; refine blk_put (cs := #[.int .i64 (wrap64 (t267 + (wrap64 (Int.tdiv t270 8)))), .int .i64 0, .int .i64 (wrap64 (t273 - (wrap64 (Int.tdiv t276 8))))]) ?_ 1 _ rfl; exact b_ BK279.out⟩, ⟨by repeat (first | (with_reducible first | exact HI0.out | apply IsS74.alloc | apply IsS74.drewN | apply IsS74.drew | apply IsS74.set_1 | apply IsS74.set_2 | refine IsS74.far ?_ NB0_266.out _ | refine IsS74.far ?_ NB0_279.out _) | exact HI0.out)⟩, ⟨by repeat (first | (with_reducible first | exact HK.out | apply KeepBut.set_ | apply keep_drewN | apply keep_drew | apply keep_alloc | refine keep_far ?_ GW266.out _ | refine keep_far ?_ GW279.out _) | exact HK.out)⟩, ⟨by repeat (first | (with_reducible first | exact HB.out | apply below_alloc | apply pw_below_drewN | apply below_drew1 | refine below_set ?_ (IsS74.ge HI0.out) | refine below_set ?_ GE266.out | refine below_set ?_ GE279.out) | exact HB.out)⟩⟩
    replace H := bf_ c24 H; obtain ⟨rfl, H⟩ := H
    by_cases c30 : (wrap64 (t267 + (wrap64 (Int.tdiv t270 8)))) = 5
    · obtain ⟨H, c30b0, c30b1⟩ := ep_ c30 H
      clear c30
      replace H := bd_ H; obtain ⟨⟨t286, t287, t288⟩, A31, H⟩ := H
      dsimp only at H
      have H' := Aside0.mk H
      clear H
      go_wp2_with (first | ((with_reducible refine gc_ 61 rfl ?_); refine gL_ 33 Tryz.func61 #[.pointer (some ⟨g, 0, none⟩), .int .i64 10] ?_; (with_reducible refine (spec_l1Cur_pick.calls g s0_0 t277 t278 10 t286 t287 t288 w0 _ ?side1 ?side2 A31.out).mono ?_); (case side1 => exact zc11_0_); (case side2 => exact zc11_2_); rintro e w32 ⟨rfl, hi, hb, hk⟩; refine ⟨_, rfl, ?_⟩; replace BK266 := Aside0.mk (KeepBut.blk hk (g' := gb266) (o := .cells #[.int .i64 0, .int .i64 0, .int .i64 0] 37 (0, 0)) z10_1_ NB266_0.out (by simp)); replace BK279 := Aside0.mk (KeepBut.blk hk (g' := gb279) (o := .cells #[.int .i64 (wrap64 (t267 + (wrap64 (Int.tdiv t270 8)))), .int .i64 0, .int .i64 (wrap64 (t273 - (wrap64 (Int.tdiv t276 8))))] 37 (0, 0)) z10_7_ NB279_0.out (by simp)); replace HK := Aside0.mk (KeepBut.trans z10_2_ hk (.inl rfl)); replace HB := Aside0.mk (hb); replace HI0 := Aside0.mk (hi); have hnb33 := NB279_266.out; have hnc33 := NB266_279.out; have hnb34 := NB279_0.out; have hnc34 := NB0_279.out; have hcz35_0 : w32.cell? ⟨gb279, 0, none⟩ = some (.int .i64 (wrap64 (t267 + (wrap64 (Int.tdiv t270 8))))) := (blk_cell BK279.out 0).trans rfl; have hcz35_1 : w32.cell? ⟨gb279, 1, none⟩ = some (.int .i64 0) := (blk_cell BK279.out 1).trans rfl; have hcz35_2 : w32.cell? ⟨gb279, 2, none⟩ = some (.int .i64 (wrap64 (t273 - (wrap64 (Int.tdiv t276 8))))) := (blk_cell BK279.out 2).trans rfl; have hfz35_0 := blk_frozen BK279.out 0; have hfz35_1 := blk_frozen BK279.out 1; have hfz35_2 := blk_frozen BK279.out 2))
      go_meet
      case rel => exact ⟨_, (t287), (t288), (0), (wrap64 (1 + t286)), H', ⟨by have := HJ21.out; first | omega | exact Nat.le_refl _⟩, ⟨by refine b_ ?_; refine blk_far ?_ NB266_279.out _; exact b_ BK266.out⟩, ⟨by refine b_ ?_; refine blk_put (cs := #[.int .i64 (wrap64 (t267 + (wrap64 (Int.tdiv t270 8)))), .int .i64 0, .int .i64 (wrap64 (t273 - (wrap64 (Int.tdiv t276 8))))]) ?_ 2 _ rfl; exact b_ BK279.out⟩, ⟨by repeat (first | (with_reducible first | exact HI0.out | apply IsS74.alloc | apply IsS74.drewN | apply IsS74.drew | apply IsS74.set_1 | apply IsS74.set_2 | refine IsS74.far ?_ NB0_266.out _ | refine IsS74.far ?_ NB0_279.out _) | exact HI0.out)⟩, ⟨by repeat (first | (with_reducible first | exact HK.out | apply KeepBut.set_ | apply keep_drewN | apply keep_drew | apply keep_alloc | refine keep_far ?_ GW266.out _ | refine keep_far ?_ GW279.out _) | exact HK.out)⟩, ⟨by repeat (first | (with_reducible first | exact HB.out | apply below_alloc | apply pw_below_drewN | apply below_drew1 | refine below_set ?_ (IsS74.ge HI0.out) | refine below_set ?_ GE266.out | refine below_set ?_ GE279.out) | exact HB.out)⟩⟩
    obtain ⟨H, c30b0, c30b1⟩ := en_ c30 H
    have H' := Aside0.mk H
    clear H
    go_wp2
    go_meet
    case rel => exact ⟨_, (t277), (t278), (0), ((wrap64 (t273 - (wrap64 (Int.tdiv t276 8))))), H', ⟨by have := HJ21.out; first | omega | exact Nat.le_refl _⟩, ⟨b_ BK266.out⟩, ⟨b_ BK279.out⟩, ⟨by repeat (first | (with_reducible first | exact HI0.out | apply IsS74.alloc | apply IsS74.drewN | apply IsS74.drew | apply IsS74.set_1 | apply IsS74.set_2 | refine IsS74.far ?_ NB0_266.out _ | refine IsS74.far ?_ NB0_279.out _) | exact HI0.out)⟩, ⟨by repeat (first | (with_reducible first | exact HK.out | apply KeepBut.set_ | apply keep_drewN | apply keep_drew | apply keep_alloc | refine keep_far ?_ GW266.out _ | refine keep_far ?_ GW279.out _) | exact HK.out)⟩, ⟨by repeat (first | (with_reducible first | exact HB.out | apply below_alloc | apply pw_below_drewN | apply below_drew1 | refine below_set ?_ (IsS74.ge HI0.out) | refine below_set ?_ GE266.out | refine below_set ?_ GE279.out) | exact HB.out)⟩⟩
 case rest =>
  clear HC6
  obtain ⟨kq, x1001_5, x1002_5, x280001_5, x280002_5, HA, HJ5, BK266, BK279, HI0, HK, HB⟩ := hcut
  cases kq with
  | zero => exact absurd HA.out (by simp [spec_l1Cur_clue.j1])
  | succ kj5 =>
   have H := HA.out
   clear HA
   simp only [spec_l1Cur_clue.j1] at H
   have HC36 := Aside0.mk H
   clear H
   go_upto_region 10 with (fail)
   go_cut [43] (fun v43 wc => ∃ (kq : Nat) (x43_35 : Bool), v43 = .bool x43_35 ∧ Aside0 (spec_l1Cur_clue.j2 kq x43_35 s0_0 x1001_5 x1002_5 (wrap64 (t267 + (wrap64 (Int.tdiv t270 8)))) x280001_5 x280002_5 = some (r1, r2, r3, r4, r5)) ∧ Aside0 (kq ≤ kj5) ∧ Aside0 (wc.heap[gb266]? = some (.cells #[.int .i64 0, .int .i64 0, .int .i64 0] 37 (0, 0))) ∧ Aside0 (wc.heap[gb279]? = some (.cells #[.int .i64 (wrap64 (t267 + (wrap64 (Int.tdiv t270 8)))), .int .i64 x280001_5, .int .i64 x280002_5] 37 (0, 0))) ∧ Aside0 (IsS74 w0 wc g s0_0 x1001_5 x1002_5) ∧ Aside0 (KeepBut w wc g none) ∧ Aside0 (Below w0.heap.size w0 wc))
   case first =>
    have H := HC36.out
    clear HC36
    by_cases c37 : (wrap64 (t267 + (wrap64 (Int.tdiv t270 8)))) = 2
    · obtain ⟨H, c37b0, c37b1⟩ := ep_ c37 H
      clear c37
      (first | rw [c37b0] | (simp only [i64_w, i32_w]; rw [c37b0]) | skip)
      have H' := Aside0.mk H
      clear H
      have hnb38 := NB279_266.out
      have hnc38 := NB266_279.out
      have hnb39 := NB279_0.out
      have hnc39 := NB0_279.out
      have hcz40_0 : wc.cell? ⟨gb279, 0, none⟩ = some (.int .i64 (wrap64 (t267 + (wrap64 (Int.tdiv t270 8))))) := (blk_cell BK279.out 0).trans rfl
      have hcz40_1 : wc.cell? ⟨gb279, 1, none⟩ = some (.int .i64 x280001_5) := (blk_cell BK279.out 1).trans rfl
      have hcz40_2 : wc.cell? ⟨gb279, 2, none⟩ = some (.int .i64 x280002_5) := (blk_cell BK279.out 2).trans rfl
      have hfz40_0 := blk_frozen BK279.out 0
      have hfz40_1 := blk_frozen BK279.out 1
      have hfz40_2 := blk_frozen BK279.out 2
      go_wp2
      go_meet
      case rel => exact ⟨_, (true), zV_, H', ⟨by have := HJ5.out; first | omega | exact Nat.le_refl _⟩, ⟨b_ BK266.out⟩, ⟨b_ BK279.out⟩, ⟨by repeat (first | (with_reducible first | exact HI0.out | apply IsS74.alloc | apply IsS74.drewN | apply IsS74.drew | apply IsS74.set_1 | apply IsS74.set_2 | refine IsS74.far ?_ NB0_266.out _ | refine IsS74.far ?_ NB0_279.out _) | exact HI0.out)⟩, ⟨by repeat (first | (with_reducible first | exact HK.out | apply KeepBut.set_ | apply keep_drewN | apply keep_drew | apply keep_alloc | refine keep_far ?_ GW266.out _ | refine keep_far ?_ GW279.out _) | exact HK.out)⟩, ⟨by repeat (first | (with_reducible first | exact HB.out | apply below_alloc | apply pw_below_drewN | apply below_drew1 | refine below_set ?_ (IsS74.ge HI0.out) | refine below_set ?_ GE266.out | refine below_set ?_ GE279.out) | exact HB.out)⟩⟩
    obtain ⟨H, c37b0, c37b1⟩ := en_ c37 H
    (first | rw [c37b0] | (simp only [i64_w, i32_w]; rw [c37b0]) | skip)
    have H' := Aside0.mk H
    clear H
    have hnb41 := NB279_266.out
    have hnc41 := NB266_279.out
    have hnb42 := NB279_0.out
    have hnc42 := NB0_279.out
    have hcz43_0 : wc.cell? ⟨gb279, 0, none⟩ = some (.int .i64 (wrap64 (t267 + (wrap64 (Int.tdiv t270 8))))) := (blk_cell BK279.out 0).trans rfl
    have hcz43_1 : wc.cell? ⟨gb279, 1, none⟩ = some (.int .i64 x280001_5) := (blk_cell BK279.out 1).trans rfl
    have hcz43_2 : wc.cell? ⟨gb279, 2, none⟩ = some (.int .i64 x280002_5) := (blk_cell BK279.out 2).trans rfl
    have hfz43_0 := blk_frozen BK279.out 0
    have hfz43_1 := blk_frozen BK279.out 1
    have hfz43_2 := blk_frozen BK279.out 2
    go_wp2
    go_meet
    case rel => exact ⟨_, (((wrap64 (t267 + (wrap64 (Int.tdiv t270 8)))) == 3)), zV_, H', ⟨by have := HJ5.out; first | omega | exact Nat.le_refl _⟩, ⟨b_ BK266.out⟩, ⟨b_ BK279.out⟩, ⟨by repeat (first | (with_reducible first | exact HI0.out | apply IsS74.alloc | apply IsS74.drewN | apply IsS74.drew | apply IsS74.set_1 | apply IsS74.set_2 | refine IsS74.far ?_ NB0_266.out _ | refine IsS74.far ?_ NB0_279.out _) | exact HI0.out)⟩, ⟨by repeat (first | (with_reducible first | exact HK.out | apply KeepBut.set_ | apply keep_drewN | apply keep_drew | apply keep_alloc | refine keep_far ?_ GW266.out _ | refine keep_far ?_ GW279.out _) | exact HK.out)⟩, ⟨by repeat (first | (with_reducible first | exact HB.out | apply below_alloc | apply pw_below_drewN | apply below_drew1 | refine below_set ?_ (IsS74.ge HI0.out) | refine below_set ?_ GE266.out | refine below_set ?_ GE279.out) | exact HB.out)⟩⟩
   case rest =>
    clear HC36
    obtain ⟨kq, x43_35, rfl, HA, HJ35, BK266, BK279, HI0, HK, HB⟩ := hcut
    cases kq with
    | zero => exact absurd HA.out (by simp [spec_l1Cur_clue.j2])
    | succ kj35 =>
     have H := HA.out
     clear HA
     simp only [spec_l1Cur_clue.j2] at H
     have HC44 := Aside0.mk H
     clear H
     go_upto_if 43 with (fail)
     go_cut [] (fun wc => ∃ (kq : Nat) (x1001_43 : Int) (x1002_43 : Int) (x280002_43 : Int), Aside0 (spec_l1Cur_clue.j3 kq s0_0 x1001_43 x1002_43 (wrap64 (t267 + (wrap64 (Int.tdiv t270 8)))) x280001_5 x280002_43 = some (r1, r2, r3, r4, r5)) ∧ Aside0 (kq ≤ kj35) ∧ Aside0 (wc.heap[gb266]? = some (.cells #[.int .i64 0, .int .i64 0, .int .i64 0] 37 (0, 0))) ∧ Aside0 (wc.heap[gb279]? = some (.cells #[.int .i64 (wrap64 (t267 + (wrap64 (Int.tdiv t270 8)))), .int .i64 x280001_5, .int .i64 x280002_43] 37 (0, 0))) ∧ Aside0 (IsS74 w0 wc g s0_0 x1001_43 x1002_43) ∧ Aside0 (KeepBut w wc g none) ∧ Aside0 (Below w0.heap.size w0 wc))
     case first =>
      have H := HC44.out
      clear HC44
      by_cases c45 : x43_35 = true
      · subst c45
        rw [if_pos rfl] at H
        replace H := bd_ H; obtain ⟨⟨t289, t290, t291⟩, A46, H⟩ := H
        dsimp only at H
        have H' := Aside0.mk H
        clear H
        go_wp2_with (first | ((with_reducible refine gc_ 61 rfl ?_); refine gL_ 45 Tryz.func61 #[.pointer (some ⟨g, 0, none⟩), .int .i64 3] ?_; (with_reducible refine (spec_l1Cur_pick.calls g s0_0 x1001_5 x1002_5 3 t289 t290 t291 w0 _ ?side1 ?side2 A46.out).mono ?_); (case side1 => exact zc11_0_); (case side2 => exact zc11_2_); rintro e w47 ⟨rfl, hi, hb, hk⟩; refine ⟨_, rfl, ?_⟩; replace BK266 := Aside0.mk (KeepBut.blk hk (g' := gb266) (o := .cells #[.int .i64 0, .int .i64 0, .int .i64 0] 37 (0, 0)) z10_1_ NB266_0.out (by simp)); replace BK279 := Aside0.mk (KeepBut.blk hk (g' := gb279) (o := .cells #[.int .i64 (wrap64 (t267 + (wrap64 (Int.tdiv t270 8)))), .int .i64 x280001_5, .int .i64 x280002_5] 37 (0, 0)) z10_7_ NB279_0.out (by simp)); replace HK := Aside0.mk (KeepBut.trans z10_2_ hk (.inl rfl)); replace HB := Aside0.mk (hb); replace HI0 := Aside0.mk (hi); have hnb48 := NB279_266.out; have hnc48 := NB266_279.out; have hnb49 := NB279_0.out; have hnc49 := NB0_279.out; have hcz50_0 : w47.cell? ⟨gb279, 0, none⟩ = some (.int .i64 (wrap64 (t267 + (wrap64 (Int.tdiv t270 8))))) := (blk_cell BK279.out 0).trans rfl; have hcz50_1 : w47.cell? ⟨gb279, 1, none⟩ = some (.int .i64 x280001_5) := (blk_cell BK279.out 1).trans rfl; have hcz50_2 : w47.cell? ⟨gb279, 2, none⟩ = some (.int .i64 x280002_5) := (blk_cell BK279.out 2).trans rfl; have hfz50_0 := blk_frozen BK279.out 0; have hfz50_1 := blk_frozen BK279.out 1; have hfz50_2 := blk_frozen BK279.out 2))
        go_meet
        case rel => exact ⟨_, (t290), (t291), (t289), H', ⟨by have := HJ5.out; have := HJ35.out; first | omega | exact Nat.le_refl _⟩, ⟨by refine b_ ?_; refine blk_far ?_ NB266_279.out _; exact b_ BK266.out⟩, ⟨by refine b_ ?_; refine blk_put (cs := #[.int .i64 (wrap64 (t267 + (wrap64 (Int.tdiv t270 8)))), .int .i64 x280001_5, .int .i64 x280002_5]) ?_ 2 _ rfl; exact b_ BK279.out⟩, ⟨by repeat (first | (with_reducible first | exact HI0.out | apply IsS74.alloc | apply IsS74.drewN | apply IsS74.drew | apply IsS74.set_1 | apply IsS74.set_2 | refine IsS74.far ?_ NB0_266.out _ | refine IsS74.far ?_ NB0_279.out _) | exact HI0.out)⟩, ⟨by repeat (first | (with_reducible first | exact HK.out | apply KeepBut.set_ | apply keep_drewN | apply keep_drew | apply keep_alloc | refine keep_far ?_ GW266.out _ | refine keep_far ?_ GW279.out _) | exact HK.out)⟩, ⟨by repeat (first | (with_reducible first | exact HB.out | apply below_alloc | apply pw_below_drewN | apply below_drew1 | refine below_set ?_ (IsS74.ge HI0.out) | refine below_set ?_ GE266.out | refine below_set ?_ GE279.out) | exact HB.out)⟩⟩
      replace H := bf_ c45 H; obtain ⟨rfl, H⟩ := H
      have H' := Aside0.mk H
      clear H
      go_wp2
      go_meet
      case rel => exact ⟨_, (x1001_5), (x1002_5), (x280002_5), H', ⟨by have := HJ5.out; have := HJ35.out; first | omega | exact Nat.le_refl _⟩, ⟨b_ BK266.out⟩, ⟨b_ BK279.out⟩, ⟨by repeat (first | (with_reducible first | exact HI0.out | apply IsS74.alloc | apply IsS74.drewN | apply IsS74.drew | apply IsS74.set_1 | apply IsS74.set_2 | refine IsS74.far ?_ NB0_266.out _ | refine IsS74.far ?_ NB0_279.out _) | exact HI0.out)⟩, ⟨by repeat (first | (with_reducible first | exact HK.out | apply KeepBut.set_ | apply keep_drewN | apply keep_drew | apply keep_alloc | refine keep_far ?_ GW266.out _ | refine keep_far ?_ GW279.out _) | exact HK.out)⟩, ⟨by repeat (first | (with_reducible first | exact HB.out | apply below_alloc | apply pw_below_drewN | apply below_drew1 | refine below_set ?_ (IsS74.ge HI0.out) | refine below_set ?_ GE266.out | refine below_set ?_ GE279.out) | exact HB.out)⟩⟩
     case rest =>
      clear HC44
      obtain ⟨kq, x1001_43, x1002_43, x280002_43, HA, HJ43, BK266, BK279, HI0, HK, HB⟩ := hcut
      cases kq with
      | zero => exact absurd HA.out (by simp [spec_l1Cur_clue.j3])
      | succ kj43 =>
       have H := HA.out
       clear HA
       simp only [spec_l1Cur_clue.j3] at H
       replace H := bd_ H; obtain ⟨⟨t292, t293, t294⟩, A51, H⟩ := H
       dsimp only at H
       by_cases c52 : t292 = true
       · subst c52
         rw [if_pos rfl] at H
         replace H := bd_ H; obtain ⟨⟨t295, t296, t297⟩, A53, H⟩ := H
         dsimp only at H
         simp only [Option.some.injEq, Prod.mk.injEq] at H
         obtain ⟨rfl, rfl, rfl, rfl, rfl⟩ := H
         go_wp2_with (first | ((with_reducible refine gc_ 57 rfl ?_); refine gL_ 48 Tryz.func57 #[.pointer (some ⟨g, 0, none⟩), .int .i64 14] ?_; (with_reducible refine (spec_l1Cur_one.calls g s0_0 x1001_43 x1002_43 14 true t293 t294 w0 _ ?side1 ?side2 A51.out).mono ?_); (case side1 => exact zc11_0_); (case side2 => exact zc11_2_); rintro e w54 ⟨rfl, hi, hb, hk⟩; refine ⟨_, rfl, ?_⟩; replace BK266 := Aside0.mk (KeepBut.blk hk (g' := gb266) (o := .cells #[.int .i64 0, .int .i64 0, .int .i64 0] 37 (0, 0)) z10_1_ NB266_0.out (by simp)); replace BK279 := Aside0.mk (KeepBut.blk hk (g' := gb279) (o := .cells #[.int .i64 (wrap64 (t267 + (wrap64 (Int.tdiv t270 8)))), .int .i64 x280001_5, .int .i64 x280002_43] 37 (0, 0)) z10_7_ NB279_0.out (by simp)); replace HK := Aside0.mk (KeepBut.trans z10_2_ hk (.inl rfl)); replace HB := Aside0.mk (hb); replace HI0 := Aside0.mk (hi)) | ((with_reducible refine gc_ 61 rfl ?_); refine gL_ 50 Tryz.func61 #[.pointer (some ⟨g, 0, none⟩), .int .i64 3] ?_; (with_reducible refine (spec_l1Cur_pick.calls g s0_0 t293 t294 3 t295 t296 t297 w0 _ ?side1 ?side2 A53.out).mono ?_); (case side1 => exact zc11_0_); (case side2 => exact zc11_2_); rintro e w55 ⟨rfl, hi, hb, hk⟩; refine ⟨_, rfl, ?_⟩; replace BK266 := Aside0.mk (KeepBut.blk hk (g' := gb266) (o := .cells #[.int .i64 0, .int .i64 0, .int .i64 0] 37 (0, 0)) z10_1_ NB266_0.out (by simp)); replace BK279 := Aside0.mk (KeepBut.blk hk (g' := gb279) (o := .cells #[.int .i64 (wrap64 (t267 + (wrap64 (Int.tdiv t270 8)))), .int .i64 x280001_5, .int .i64 x280002_43] 37 (0, 0)) z10_7_ NB279_0.out (by simp)); replace HK := Aside0.mk (KeepBut.trans z10_2_ hk (.inl rfl)); replace HB := Aside0.mk (hb); replace HI0 := Aside0.mk (hi); have hnb56 := NB279_266.out; have hnc56 := NB266_279.out; have hnb57 := NB279_0.out; have hnc57 := NB0_279.out; have hcz58_0 : w55.cell? ⟨gb279, 0, none⟩ = some (.int .i64 (wrap64 (t267 + (wrap64 (Int.tdiv t270 8))))) := (blk_cell BK279.out 0).trans rfl; have hcz58_1 : w55.cell? ⟨gb279, 1, none⟩ = some (.int .i64 x280001_5) := (blk_cell BK279.out 1).trans rfl; have hcz58_2 : w55.cell? ⟨gb279, 2, none⟩ = some (.int .i64 x280002_43) := (blk_cell BK279.out 2).trans rfl; have hfz58_0 := blk_frozen BK279.out 0; have hfz58_1 := blk_frozen BK279.out 1; have hfz58_2 := blk_frozen BK279.out 2; have hnb59 := NB266_0.out; have hnc59 := NB0_266.out; have hcz60_0 : w55.cell? ⟨gb266, 0, none⟩ = some (.int .i64 0) := (blk_cell BK266.out 0).trans rfl; have hcz60_1 : w55.cell? ⟨gb266, 1, none⟩ = some (.int .i64 0) := (blk_cell BK266.out 1).trans rfl; have hcz60_2 : w55.cell? ⟨gb266, 2, none⟩ = some (.int .i64 0) := (blk_cell BK266.out 2).trans rfl; have hfz60_0 := blk_frozen BK266.out 0; have hfz60_1 := blk_frozen BK266.out 1; have hfz60_2 := blk_frozen BK266.out 2))
         refine bodyPost_ret (results_cell_row rfl _ _ gb266 37 #[.int .i64 (wrap64 (t267 + (wrap64 (Int.tdiv t270 8)))), .int .i64 (wrap64 (t295 - 1)), .int .i64 x280002_43] (0, 0) _ rfl (by refine b_ ?_; refine blk_put (cs := #[.int .i64 (wrap64 (t267 + (wrap64 (Int.tdiv t270 8)))), .int .i64 (wrap64 (t295 - 1)), .int .i64 0]) ?_ 2 _ rfl; refine b_ ?_; refine blk_put (cs := #[.int .i64 (wrap64 (t267 + (wrap64 (Int.tdiv t270 8)))), .int .i64 0, .int .i64 0]) ?_ 1 _ rfl; refine b_ ?_; refine blk_put (cs := #[.int .i64 0, .int .i64 0, .int .i64 0]) ?_ 0 _ rfl; refine b_ ?_; refine blk_far ?_ NB266_279.out _; exact b_ BK266.out) Tryz.underlying37 rfl (by kernel_rfl)) rfl ?_
         exact ⟨zR_, by repeat (first | (with_reducible first | exact HI0.out | apply IsS74.alloc | apply IsS74.drewN | apply IsS74.drew | apply IsS74.set_1 | apply IsS74.set_2 | refine IsS74.far ?_ NB0_266.out _ | refine IsS74.far ?_ NB0_279.out _) | exact HI0.out), by repeat (first | (with_reducible first | exact HB.out | apply below_alloc | apply pw_below_drewN | apply below_drew1 | refine below_set ?_ (IsS74.ge HI0.out) | refine below_set ?_ GE266.out | refine below_set ?_ GE279.out) | exact HB.out), by repeat (first | (with_reducible first | exact HK.out | apply KeepBut.set_ | apply keep_drewN | apply keep_drew | apply keep_alloc | refine keep_far ?_ GW266.out _ | refine keep_far ?_ GW279.out _) | exact HK.out)⟩
       replace H := bf_ c52 H; obtain ⟨rfl, H⟩ := H
       simp only [Option.some.injEq, Prod.mk.injEq] at H
       obtain ⟨rfl, rfl, rfl, rfl, rfl⟩ := H
       go_wp2_with (first | ((with_reducible refine gc_ 57 rfl ?_); refine gL_ 48 Tryz.func57 #[.pointer (some ⟨g, 0, none⟩), .int .i64 14] ?_; (with_reducible refine (spec_l1Cur_one.calls g s0_0 x1001_43 x1002_43 14 false t293 t294 w0 _ ?side1 ?side2 A51.out).mono ?_); (case side1 => exact zc11_0_); (case side2 => exact zc11_2_); rintro e w61 ⟨rfl, hi, hb, hk⟩; refine ⟨_, rfl, ?_⟩; replace BK266 := Aside0.mk (KeepBut.blk hk (g' := gb266) (o := .cells #[.int .i64 0, .int .i64 0, .int .i64 0] 37 (0, 0)) z10_1_ NB266_0.out (by simp)); replace BK279 := Aside0.mk (KeepBut.blk hk (g' := gb279) (o := .cells #[.int .i64 (wrap64 (t267 + (wrap64 (Int.tdiv t270 8)))), .int .i64 x280001_5, .int .i64 x280002_43] 37 (0, 0)) z10_7_ NB279_0.out (by simp)); replace HK := Aside0.mk (KeepBut.trans z10_2_ hk (.inl rfl)); replace HB := Aside0.mk (hb); replace HI0 := Aside0.mk (hi); have hnb62 := NB279_266.out; have hnc62 := NB266_279.out; have hnb63 := NB279_0.out; have hnc63 := NB0_279.out; have hcz64_0 : w61.cell? ⟨gb279, 0, none⟩ = some (.int .i64 (wrap64 (t267 + (wrap64 (Int.tdiv t270 8))))) := (blk_cell BK279.out 0).trans rfl; have hcz64_1 : w61.cell? ⟨gb279, 1, none⟩ = some (.int .i64 x280001_5) := (blk_cell BK279.out 1).trans rfl; have hcz64_2 : w61.cell? ⟨gb279, 2, none⟩ = some (.int .i64 x280002_43) := (blk_cell BK279.out 2).trans rfl; have hfz64_0 := blk_frozen BK279.out 0; have hfz64_1 := blk_frozen BK279.out 1; have hfz64_2 := blk_frozen BK279.out 2; have hnb65 := NB266_0.out; have hnc65 := NB0_266.out; have hcz66_0 : w61.cell? ⟨gb266, 0, none⟩ = some (.int .i64 0) := (blk_cell BK266.out 0).trans rfl; have hcz66_1 : w61.cell? ⟨gb266, 1, none⟩ = some (.int .i64 0) := (blk_cell BK266.out 1).trans rfl; have hcz66_2 : w61.cell? ⟨gb266, 2, none⟩ = some (.int .i64 0) := (blk_cell BK266.out 2).trans rfl; have hfz66_0 := blk_frozen BK266.out 0; have hfz66_1 := blk_frozen BK266.out 1; have hfz66_2 := blk_frozen BK266.out 2))
       refine bodyPost_ret (results_cell_row rfl _ _ gb266 37 #[.int .i64 (wrap64 (t267 + (wrap64 (Int.tdiv t270 8)))), .int .i64 x280001_5, .int .i64 x280002_43] (0, 0) _ rfl (by refine b_ ?_; refine blk_put (cs := #[.int .i64 (wrap64 (t267 + (wrap64 (Int.tdiv t270 8)))), .int .i64 x280001_5, .int .i64 0]) ?_ 2 _ rfl; refine b_ ?_; refine blk_put (cs := #[.int .i64 (wrap64 (t267 + (wrap64 (Int.tdiv t270 8)))), .int .i64 0, .int .i64 0]) ?_ 1 _ rfl; refine b_ ?_; refine blk_put (cs := #[.int .i64 0, .int .i64 0, .int .i64 0]) ?_ 0 _ rfl; exact b_ BK266.out) Tryz.underlying37 rfl (by kernel_rfl)) rfl ?_
       exact ⟨zR_, by repeat (first | (with_reducible first | exact HI0.out | apply IsS74.alloc | apply IsS74.drewN | apply IsS74.drew | apply IsS74.set_1 | apply IsS74.set_2 | refine IsS74.far ?_ NB0_266.out _ | refine IsS74.far ?_ NB0_279.out _) | exact HI0.out), by repeat (first | (with_reducible first | exact HB.out | apply below_alloc | apply pw_below_drewN | apply below_drew1 | refine below_set ?_ (IsS74.ge HI0.out) | refine below_set ?_ GE266.out | refine below_set ?_ GE279.out) | exact HB.out), by repeat (first | (with_reducible first | exact HK.out | apply KeepBut.set_ | apply keep_drewN | apply keep_drew | apply keep_alloc | refine keep_far ?_ GW266.out _ | refine keep_far ?_ GW279.out _) | exact HK.out)⟩

/-! ### spec_l1Cur_surePuzzle: function 94 -/
def spec_l1Cur_surePuzzle.f (k : Nat) (s0_0 : List Int) (s0_1 : Int) (s0_2 : Int) (a1 : Int) : Option ((List (S37)) × Int × Int) := (spec_l1Cur_hidden.f k s0_0 s0_1 s0_2).bind fun bt299 => ((spec_l1Cur_pick.f s0_0 bt299.2.1 bt299.2.2 (wrap64 (a1 + 1))).bind fun bt302 => ((spec_l1Cur_pick.f s0_0 bt302.2.1 bt302.2.2 10000).bind fun bt305 => ((spec_MakePuzzle.f k bt299.1 bt302.1 bt305.1).bind fun bt308 => (some (bt308.1, bt305.2.1, bt305.2.2)))))
theorem spec_l1Cur_surePuzzle.mono : ∀ a0 a1 a2 a3 k, LeO (spec_l1Cur_surePuzzle.f k a0 a1 a2 a3) (spec_l1Cur_surePuzzle.f (k + 1) a0 a1 a2 a3) := by
 intro a0 a1 a2 a3 k
 unfold spec_l1Cur_surePuzzle.f
 have m1_ := @spec_MakePuzzle.mono
 have m2_ := @spec_l1Cur_hidden.mono
 exact zM_
set_option maxHeartbeats 8000000 in
set_option maxRecDepth 100000 in
theorem spec_l1Cur_surePuzzle.calls (k : Nat) (g : Nat) (s0_0 : List Int) (s0_1 : Int) (s0_2 : Int) (a1 : Int) (r1 : List (S37)) (r2 : Int) (r3 : Int) (w0 w : World) (hI : IsS74 w0 w g s0_0 s0_1 s0_2) (hB : Below w0.heap.size w0 w) (h : spec_l1Cur_surePuzzle.f k s0_0 s0_1 s0_2 a1 = some (r1, r2, r3)) :
 Calls Tryz.prog 94 #[.pointer (some ⟨g, 0, none⟩), .int .i64 a1] w fun e w' => ∃ v0_ : Value, e = .returned (.agg #[v0_]) ∧ Kd.R k37 37 w' w.heap.size (fun _ => True) v0_ r1 ∧ IsS74 w0 w' g s0_0 r2 r3 ∧ Below w0.heap.size w0 w' ∧ KeepBut w w' g none := by
 have hu28 := Tryz.underlying28
 have HI0 := Aside0.mk hI
 have HK := Aside0.mk (KeepBut.refl w g none)
 have HL := Aside0.mk hB.size
 clear hI
 have HW0 := Aside0.mk hB.size
 have HB := Aside0.mk hB
 clear hB
 unfold spec_l1Cur_surePuzzle.f at h
 have H := h
 clear h
 replace H := bd_ H; obtain ⟨⟨t299, t300, t301⟩, A3, H⟩ := H
 dsimp only at H
 replace H := bd_ H; obtain ⟨⟨t302, t303, t304⟩, A4, H⟩ := H
 dsimp only at H
 replace H := bd_ H; obtain ⟨⟨t305, t306, t307⟩, A5, H⟩ := H
 dsimp only at H
 replace H := bd_ H; obtain ⟨⟨t308, t311⟩, A6, H⟩ := H
 dsimp only at H
 simp only [Option.some.injEq, Prod.mk.injEq] at H
 obtain ⟨rfl, rfl, rfl⟩ := H
 go_enter Tryz.func94, Tryz.ntmps94
 go_wp2_with (first | (refine bx_ 4 #[.slice none 0 0] 28 ?_; intro gb298 hg w7 hbox hb; replace HB := Aside0.mk (below_step (by repeat (first | (with_reducible first | exact HB.out | apply below_alloc | apply pw_below_drewN | apply below_drew1 | refine below_set ?_ (IsS74.ge HI0.out)) | exact HB.out)) hb); have BK298 := Aside0.mk (hbox); have GW298 := Aside0.mk ((by rw [hg]; exact (keep_size (w := w) (g := g) (row := none) z10_5_) : w.heap.size ≤ gb298)); have GE298 := Aside0.mk ((Nat.le_trans HW0.out (by rw [hg]; exact (keep_size (w := w) (g := g) (row := none) z10_5_) : w.heap.size ≤ gb298) : w0.heap.size ≤ gb298)); replace HK := Aside0.mk (KeepBut.trans z10_5_ (KeepBut.of_below hb g none) (.inl rfl)); have NB0_298 := Aside0.mk ((by rw [hg]; exact Nat.ne_of_lt (IsS74.lt (show IsS74 w0 _ g s0_0 s0_1 s0_2 from by repeat (first | (with_reducible first | exact HI0.out | apply IsS74.alloc | apply IsS74.drewN | apply IsS74.drew | apply IsS74.set_1 | apply IsS74.set_2) | exact HI0.out))) : g ≠ gb298)); have NB298_0 := Aside0.mk ((by rw [hg]; exact Nat.ne_of_gt (IsS74.lt (show IsS74 w0 _ g s0_0 s0_1 s0_2 from by repeat (first | (with_reducible first | exact HI0.out | apply IsS74.alloc | apply IsS74.drewN | apply IsS74.drew | apply IsS74.set_1 | apply IsS74.set_2) | exact HI0.out))) : gb298 ≠ g)); replace HI0 := Aside0.mk (IsS74.below zq11_0_ hb); clear hb hbox hg) | ((with_reducible refine gc_ 60 rfl ?_); refine gL_ 9 Tryz.func60 #[.pointer (some ⟨g, 0, none⟩)] ?_; (with_reducible refine (spec_l1Cur_hidden.calls k g s0_0 s0_1 s0_2 t299 t300 t301 w0 _ ?side1 ?side2 A3.out).mono ?_); (case side1 => exact zc11_5_); (case side2 => exact zc11_7_); rintro e w8 ⟨rfl, hi, hb, hk⟩; refine ⟨_, rfl, ?_⟩; replace BK298 := Aside0.mk (KeepBut.blk hk (g' := gb298) (o := .cells #[.slice none 0 0] 28 (0, 0)) z10_6_ NB298_0.out (by simp)); replace HK := Aside0.mk (KeepBut.trans z10_3_ hk (.inl rfl)); replace HB := Aside0.mk (hb); replace HI0 := Aside0.mk (hi)) | ((with_reducible refine gc_ 61 rfl ?_); refine gL_ 13 Tryz.func61 #[.pointer (some ⟨g, 0, none⟩), .int .i64 (wrap64 (a1 + 1))] ?_; (with_reducible refine (spec_l1Cur_pick.calls g s0_0 t300 t301 (wrap64 (a1 + 1)) t302 t303 t304 w0 _ ?side1 ?side2 A4.out).mono ?_); (case side1 => exact zc11_5_); (case side2 => exact zc11_7_); rintro e w9 ⟨rfl, hi, hb, hk⟩; refine ⟨_, rfl, ?_⟩; replace BK298 := Aside0.mk (KeepBut.blk hk (g' := gb298) (o := .cells #[.slice none 0 0] 28 (0, 0)) z10_6_ NB298_0.out (by simp)); replace HK := Aside0.mk (KeepBut.trans z10_3_ hk (.inl rfl)); replace HB := Aside0.mk (hb); replace HI0 := Aside0.mk (hi)) | ((with_reducible refine gc_ 61 rfl ?_); refine gL_ 15 Tryz.func61 #[.pointer (some ⟨g, 0, none⟩), .int .i64 10000] ?_; (with_reducible refine (spec_l1Cur_pick.calls g s0_0 t303 t304 10000 t305 t306 t307 w0 _ ?side1 ?side2 A5.out).mono ?_); (case side1 => exact zc11_5_); (case side2 => exact zc11_7_); rintro e w10 ⟨rfl, hi, hb, hk⟩; refine ⟨_, rfl, ?_⟩; replace BK298 := Aside0.mk (KeepBut.blk hk (g' := gb298) (o := .cells #[.slice none 0 0] 28 (0, 0)) z10_6_ NB298_0.out (by simp)); replace HK := Aside0.mk (KeepBut.trans z10_3_ hk (.inl rfl)); replace HB := Aside0.mk (hb); replace HI0 := Aside0.mk (hi)) | ((with_reducible refine gc_ 8 rfl ?_); refine gL_ 16 Tryz.func8 #[.string t299, .int .i64 t302, .int .i64 t305] ?_; (with_reducible refine (spec_MakePuzzle.calls k t299 t302 t305 t308 t311 _ A6.out).mono ?_); rintro e w11 ⟨v309, rfl, ho0, hb⟩; refine ⟨_, rfl, ?_⟩; have HO310 := Aside0.mk (Kd.R_lower ho0 (keep_size (w := w) (g := g) (row := none) z10_3_)); replace BK298 := bb_ BK298 z10_6_ hb; replace HK := Aside0.mk (KeepBut.trans z10_3_ (KeepBut.of_below hb g none) (.inl rfl)); replace HB := Aside0.mk (below_step (by repeat (first | (with_reducible first | exact HB.out | apply below_alloc | apply pw_below_drewN | apply below_drew1 | refine below_set ?_ (IsS74.ge HI0.out) | refine below_set ?_ GE298.out) | exact HB.out)) hb); replace HI0 := Aside0.mk (IsS74.below z10_8_ hb)) | (refine bx_ 5 #[.slice none 0 0] 28 ?_; intro gb312 hg w12 hbox hb; replace HO310 := Aside0.mk (Kd.R_below (rr_ HO310.out) hb); replace HB := Aside0.mk (below_step (by repeat (first | (with_reducible first | exact HB.out | apply below_alloc | apply pw_below_drewN | apply below_drew1 | refine below_set ?_ (IsS74.ge HI0.out) | refine below_set ?_ GE298.out) | exact HB.out)) hb); have BK312 := Aside0.mk (hbox); have GW312 := Aside0.mk ((by rw [hg]; exact (keep_size (w := w) (g := g) (row := none) z10_3_) : w.heap.size ≤ gb312)); have GE312 := Aside0.mk ((Nat.le_trans HW0.out (by rw [hg]; exact (keep_size (w := w) (g := g) (row := none) z10_3_) : w.heap.size ≤ gb312) : w0.heap.size ≤ gb312)); replace HK := Aside0.mk (KeepBut.trans z10_3_ (KeepBut.of_below hb g none) (.inl rfl)); have NB298_312 := nl_ BK298 z10_6_ hg; have NB312_298 := ns_ NB298_312; replace BK298 := bb_ BK298 z10_6_ hb; have NB0_312 := Aside0.mk ((by rw [hg]; exact Nat.ne_of_lt (IsS74.lt (show IsS74 w0 _ g s0_0 t306 t307 from by repeat (first | (with_reducible first | exact HI0.out | apply IsS74.alloc | apply IsS74.drewN | apply IsS74.drew | apply IsS74.set_1 | apply IsS74.set_2 | refine IsS74.far ?_ NB0_298.out _) | exact HI0.out))) : g ≠ gb312)); have NB312_0 := Aside0.mk ((by rw [hg]; exact Nat.ne_of_gt (IsS74.lt (show IsS74 w0 _ g s0_0 t306 t307 from by repeat (first | (with_reducible first | exact HI0.out | apply IsS74.alloc | apply IsS74.drewN | apply IsS74.drew | apply IsS74.set_1 | apply IsS74.set_2 | refine IsS74.far ?_ NB0_298.out _) | exact HI0.out))) : gb312 ≠ g)); replace HI0 := Aside0.mk (IsS74.below z10_8_ hb); clear hb hbox hg; obtain ⟨Ao13, co13, eo13⟩ := Kd.R_slice HO310.out; subst eo13; have hnb14 := NB312_298.out; have hnc14 := NB298_312.out; have hnb15 := NB312_0.out; have hnc15 := NB0_312.out; have hcz16_0 : w12.cell? ⟨gb312, 0, none⟩ = some (.slice none 0 0) := (blk_cell BK312.out 0).trans rfl; have hfz16_0 := blk_frozen BK312.out 0; have hnb17 := NB298_0.out; have hnc17 := NB0_298.out; have hcz18_0 : w12.cell? ⟨gb298, 0, none⟩ = some (.slice none 0 0) := (blk_cell BK298.out 0).trans rfl; have hfz18_0 := blk_frozen BK298.out 0))
 refine bodyPost_ret (results_cell_row rfl _ _ gb298 28 #[.slice Ao13 t308.length co13] (0, 0) _ rfl (by refine b_ ?_; refine blk_put (cs := #[.slice none 0 0]) ?_ 0 _ rfl; refine b_ ?_; refine blk_far ?_ NB298_312.out _; exact b_ BK298.out) Tryz.underlying28 rfl (by kernel_rfl)) rfl ?_
 exact ⟨_, by first | rfl | (simp [errW_none, errW_some] <;> rfl) | (simp [*, errW_none, errW_some] <;> rfl), by refine rr_ ?_; exact Kd.R_mono (Kd.R_far (p := ⟨gb298, 0, none⟩) (Kd.R_far (p := ⟨gb312, 0, none⟩) (Kd.R_types (Kd.R_types HO310.out BK312.out (by decide)) BK298.out (by decide)) (fun _ hk => hk.1.2) (.slice Ao13 t308.length co13)) (fun _ hk => hk.2) (.slice Ao13 t308.length co13)) (fun _ hk => trivial), by repeat (first | (with_reducible first | exact HI0.out | apply IsS74.alloc | apply IsS74.drewN | apply IsS74.drew | apply IsS74.set_1 | apply IsS74.set_2 | refine IsS74.far ?_ NB0_298.out _ | refine IsS74.far ?_ NB0_312.out _) | exact HI0.out), by repeat (first | (with_reducible first | exact HB.out | apply below_alloc | apply pw_below_drewN | apply below_drew1 | refine below_set ?_ (IsS74.ge HI0.out) | refine below_set ?_ GE298.out | refine below_set ?_ GE312.out) | exact HB.out), by repeat (first | (with_reducible first | exact HK.out | apply KeepBut.set_ | apply keep_drewN | apply keep_drew | apply keep_alloc | refine keep_far ?_ GW298.out _ | refine keep_far ?_ GW312.out _) | exact HK.out)⟩

theorem z11_0_ {p : Prop} (h : p := by repeat (first | (with_reducible first | exact HK.out | apply KeepBut.set_ | apply keep_drewN | apply keep_drew | apply keep_alloc | refine keep_far ?_ GW313.out _ | refine keep_far ?_ GW319.out _) | exact HK.out)) : p := h
theorem z11_1_ {p : Prop} (h : p := by exact b_ BK313.out) : p := h
theorem z11_2_ {p : Prop} (h : p := by repeat (first | (with_reducible first | exact HK.out | apply KeepBut.set_ | apply keep_drewN | apply keep_drew | apply keep_alloc | refine keep_far ?_ GW313.out _) | exact HK.out)) : p := h
theorem z11_3_ {p : Prop} (h : p := by (try simp only [List.map_toArray, List.map_cons, List.map_nil]); first | done | rfl | (simp only [List.length_drop, List.length_take]; rfl)) : p := h
theorem z11_4_ {p : Prop} (h : p := by exact b_ BK319.out) : p := h
theorem z11_5_ {p : Prop} (h : p := by exact rr_ HO_320000.out) : p := h
theorem z11_6_ {p : Prop} (h : p := by refine b_ ?_; refine blk_put (cs := #[.slice none 0 0]) ?_ 0 _ rfl; exact b_ BK313.out) : p := h
theorem z11_7_ {p : Prop} (h : p := by repeat (first | (with_reducible first | exact HI0.out | apply IsS74.alloc | apply IsS74.drewN | apply IsS74.drew | apply IsS74.set_1 | apply IsS74.set_2 | refine IsS74.far ?_ NB0_313.out _ | refine IsS74.far ?_ NB0_319.out _) | exact HI0.out)) : p := h
theorem z11_8_ {p : Prop} (h : p := by repeat (first | (with_reducible first | exact HB.out | apply below_alloc | apply pw_below_drewN | apply below_drew1 | refine below_set ?_ (IsS74.ge HI0.out) | refine below_set ?_ GE313.out | refine below_set ?_ GE319.out) | exact HB.out)) : p := h
theorem z11_9_ {p : Prop} (h : p := by repeat (first | (with_reducible first | exact HK.out | apply KeepBut.set_ | apply keep_drewN | apply keep_drew | apply keep_alloc) | exact HK.out)) : p := h

/-! ### spec_l1Cur_puzzle: function 77 -/
mutual
def spec_l1Cur_puzzle.j0 : Nat → Int → Bool → List Int → Int → Int → List (S37) → Option ((List (S37)) × Int × Int)
 | 0, _, _, _, _, _, _ => none
 | k + 1, x7, x8, x1000, x1001, x1002, x320000 => if x8 = true then ((spec_l1Cur_clue.f k x1000 x1001 x1002).bind fun bt323 => (if x320000.length < 5864062014805 then (some ((x320000 ++ [(⟨bt323.1, bt323.2.1, bt323.2.2.1⟩ : S37)]), bt323.2.2.2.1, bt323.2.2.2.2)) else (none))) else (if x7 = 3 then (spec_l1Cur_puzzle.l0 k x1000 x1001 x1002 x320000) else (some (x320000, x1001, x1002)))
def spec_l1Cur_puzzle.l0 : Nat → List Int → Int → Int → List (S37) → Option ((List (S37)) × Int × Int)
 | 0, _, _, _, _ => none
 | k + 1, x1000, x1001, x1002, x320000 => (spec_l1Cur_pick.f x1000 x1001 x1002 2).bind fun bt331 => (if (x320000.length : Int) < (wrap64 (6 + bt331.1)) then (if x320000.length < 5864062014805 then (spec_l1Cur_puzzle.l0 k x1000 bt331.2.1 bt331.2.2 (x320000 ++ [(⟨0, 0, 5⟩ : S37)])) else (none)) else (some (x320000, bt331.2.1, bt331.2.2)))
end
def spec_l1Cur_puzzle.f (k : Nat) (s0_0 : List Int) (s0_1 : Int) (s0_2 : Int) : Option ((List (S37)) × Int × Int) := (spec_l1Cur_surePuzzle.f k s0_0 s0_1 s0_2 5).bind fun bt314 => ((spec_l1Cur_pick.f s0_0 bt314.2.1 bt314.2.2 12).bind fun bt320 => (if bt320.1 = 0 then (spec_l1Cur_puzzle.j0 k bt320.1 (bt320.1 == 0) s0_0 bt320.2.1 bt320.2.2 bt314.1) else (if bt320.1 = 1 then (spec_l1Cur_puzzle.j0 k bt320.1 (bt320.1 == 1) s0_0 bt320.2.1 bt320.2.2 bt314.1) else (spec_l1Cur_puzzle.j0 k bt320.1 (bt320.1 == 2) s0_0 bt320.2.1 bt320.2.2 bt314.1))))
theorem spec_l1Cur_puzzle.mono_l : ∀ k, (∀ y0 y1 y2 y3 y4 y5, LeO (spec_l1Cur_puzzle.j0 k y0 y1 y2 y3 y4 y5) (spec_l1Cur_puzzle.j0 (k + 1) y0 y1 y2 y3 y4 y5)) ∧ (∀ y0 y1 y2 y3, LeO (spec_l1Cur_puzzle.l0 k y0 y1 y2 y3) (spec_l1Cur_puzzle.l0 (k + 1) y0 y1 y2 y3))
 | 0 => ⟨fun _ _ _ _ _ _ r h => by simp [spec_l1Cur_puzzle.j0] at h, fun _ _ _ _ r h => by simp [spec_l1Cur_puzzle.l0] at h⟩
 | k + 1 => by
  obtain ⟨ih0, ih1⟩ := spec_l1Cur_puzzle.mono_l k
  refine ⟨?_, ?_⟩
  · intro y0 y1 y2 y3 y4 y5
    unfold spec_l1Cur_puzzle.j0
    repeat' first
    | (with_reducible exact ih0 _ _ _ _ _ _)
    | (with_reducible exact ih1 _ _ _ _)
    | (with_reducible exact spec_l1Cur_clue.mono _ _ _ _)
    | (with_reducible exact spec_l1Cur_surePuzzle.mono _ _ _ _ _)
    | (with_reducible exact LeO.refl _)
    | (with_reducible exact LeO.none _)
    | (with_reducible refine LeO.ite ?_ ?_)
    | (with_reducible refine LeO.bind ?_ (fun _ => ?_))
    | exact LeO.none _
    | refine LeO.ite ?_ ?_
    | refine LeO.bind ?_ (fun _ => ?_)
  intro y0 y1 y2 y3
  unfold spec_l1Cur_puzzle.l0
  repeat' first
  | (with_reducible exact ih0 _ _ _ _ _ _)
  | (with_reducible exact ih1 _ _ _ _)
  | (with_reducible exact spec_l1Cur_clue.mono _ _ _ _)
  | (with_reducible exact spec_l1Cur_surePuzzle.mono _ _ _ _ _)
  | (with_reducible exact LeO.refl _)
  | (with_reducible exact LeO.none _)
  | (with_reducible refine LeO.ite ?_ ?_)
  | (with_reducible refine LeO.bind ?_ (fun _ => ?_))
  | exact LeO.none _
  | refine LeO.ite ?_ ?_
  | refine LeO.bind ?_ (fun _ => ?_)
theorem spec_l1Cur_puzzle.mono : ∀ a0 a1 a2 k, LeO (spec_l1Cur_puzzle.f k a0 a1 a2) (spec_l1Cur_puzzle.f (k + 1) a0 a1 a2) := by
 intro a0 a1 a2 k
 obtain ⟨ih0, ih1⟩ := spec_l1Cur_puzzle.mono_l k
 unfold spec_l1Cur_puzzle.f
 repeat' first
  | (with_reducible exact ih0 _ _ _ _ _ _)
  | (with_reducible exact ih1 _ _ _ _)
  | (with_reducible exact spec_l1Cur_clue.mono _ _ _ _)
  | (with_reducible exact spec_l1Cur_surePuzzle.mono _ _ _ _ _)
  | (with_reducible exact LeO.refl _)
  | (with_reducible exact LeO.none _)
  | (with_reducible refine LeO.ite ?_ ?_)
  | (with_reducible refine LeO.bind ?_ (fun _ => ?_))
  | exact LeO.none _
  | refine LeO.ite ?_ ?_
  | refine LeO.bind ?_ (fun _ => ?_)
def spec_l1Cur_puzzle.T6 : Bool × List (List Nat × List Nat) := (true, [([], []), ([0], [0]), ([], []), ([2], [2]), ([3], [3]), ([1, 4, 3], [1, 4]), ([0, 1, 2, 3, 4, 5], []), ([6, 5, 5, 0, 1, 2, 3, 4, 5], [5, 6])])
def spec_l1Cur_puzzle.B6 : List Nat := [0, 1, 0, 4, 12, 31, 63, 127]
theorem spec_l1Cur_puzzle.tab6 : rtab .any (opsOf Tryz.f77 6) = spec_l1Cur_puzzle.T6 := by kernel_rfl
theorem spec_l1Cur_puzzle.bits6 : waitsOk spec_l1Cur_puzzle.T6.2 spec_l1Cur_puzzle.B6 = true := by kernel_rfl
set_option maxHeartbeats 8000000 in
set_option maxRecDepth 100000 in
theorem spec_l1Cur_puzzle.calls (k : Nat) (g : Nat) (s0_0 : List Int) (s0_1 : Int) (s0_2 : Int) (r1 : List (S37)) (r2 : Int) (r3 : Int) (w0 w : World) (hI : IsS74 w0 w g s0_0 s0_1 s0_2) (hB : Below w0.heap.size w0 w) (h : spec_l1Cur_puzzle.f k s0_0 s0_1 s0_2 = some (r1, r2, r3)) :
 Calls Tryz.prog 77 #[.pointer (some ⟨g, 0, none⟩)] w fun e w' => ∃ v0_ : Value, e = .returned (.agg #[v0_]) ∧ Kd.R k37 37 w' w.heap.size (fun _ => True) v0_ r1 ∧ IsS74 w0 w' g s0_0 r2 r3 ∧ Below w0.heap.size w0 w' ∧ KeepBut w w' g none := by
 have hu28 := Tryz.underlying28
 have hu37 := Tryz.underlying37
 have HI0 := Aside0.mk hI
 have HK := Aside0.mk (KeepBut.refl w g none)
 have HL := Aside0.mk hB.size
 clear hI
 have HW0 := Aside0.mk hB.size
 have HB := Aside0.mk hB
 clear hB
 unfold spec_l1Cur_puzzle.f at h
 have H := h
 clear h
 replace H := bd_ H; obtain ⟨⟨t314, t317, t318⟩, A2, H⟩ := H
 dsimp only at H
 replace H := bd_ H; obtain ⟨⟨t320, t321, t322⟩, A3, H⟩ := H
 dsimp only at H
 have HC4 := Aside0.mk H
 clear H
 go_enter Tryz.func77, Tryz.ntmps77
 go_upto_if 8 with (first | (refine bx_ 2 #[.slice none 0 0] 28 ?_; intro gb313 hg w5 hbox hb; replace HB := Aside0.mk (below_step (by repeat (first | (with_reducible first | exact HB.out | apply below_alloc | apply pw_below_drewN | apply below_drew1 | refine below_set ?_ (IsS74.ge HI0.out)) | exact HB.out)) hb); have BK313 := Aside0.mk (hbox); have GW313 := Aside0.mk ((by rw [hg]; exact (keep_size (w := w) (g := g) (row := none) z11_9_) : w.heap.size ≤ gb313)); have GE313 := Aside0.mk ((Nat.le_trans HW0.out (by rw [hg]; exact (keep_size (w := w) (g := g) (row := none) z11_9_) : w.heap.size ≤ gb313) : w0.heap.size ≤ gb313)); replace HK := Aside0.mk (KeepBut.trans z11_9_ (KeepBut.of_below hb g none) (.inl rfl)); have NB0_313 := Aside0.mk ((by rw [hg]; exact Nat.ne_of_lt (IsS74.lt (show IsS74 w0 _ g s0_0 s0_1 s0_2 from by repeat (first | (with_reducible first | exact HI0.out | apply IsS74.alloc | apply IsS74.drewN | apply IsS74.drew | apply IsS74.set_1 | apply IsS74.set_2) | exact HI0.out))) : g ≠ gb313)); have NB313_0 := Aside0.mk ((by rw [hg]; exact Nat.ne_of_gt (IsS74.lt (show IsS74 w0 _ g s0_0 s0_1 s0_2 from by repeat (first | (with_reducible first | exact HI0.out | apply IsS74.alloc | apply IsS74.drewN | apply IsS74.drew | apply IsS74.set_1 | apply IsS74.set_2) | exact HI0.out))) : gb313 ≠ g)); replace HI0 := Aside0.mk (IsS74.below zq11_0_ hb); clear hb hbox hg) | ((with_reducible refine gc_ 94 rfl ?_); refine gL_ 5 Tryz.func94 #[.pointer (some ⟨g, 0, none⟩), .int .i64 5] ?_; (with_reducible refine (spec_l1Cur_surePuzzle.calls k g s0_0 s0_1 s0_2 5 t314 t317 t318 w0 _ ?side1 ?side2 A2.out).mono ?_); (case side1 => repeat (first | (with_reducible first | exact HI0.out | apply IsS74.alloc | apply IsS74.drewN | apply IsS74.drew | apply IsS74.set_1 | apply IsS74.set_2 | refine IsS74.far ?_ NB0_313.out _) | exact HI0.out)); (case side2 => repeat (first | (with_reducible first | exact HB.out | apply below_alloc | apply pw_below_drewN | apply below_drew1 | refine below_set ?_ (IsS74.ge HI0.out) | refine below_set ?_ GE313.out) | exact HB.out)); rintro e w6 ⟨v315, rfl, ho0, hi, hb, hk⟩; refine ⟨_, rfl, ?_⟩; replace BK313 := Aside0.mk (KeepBut.blk hk (g' := gb313) (o := .cells #[.slice none 0 0] 28 (0, 0)) z11_1_ NB313_0.out (by simp)); have HO316 := Aside0.mk (Kd.R_lower ho0 (keep_size (w := w) (g := g) (row := none) z11_2_)); replace HK := Aside0.mk (KeepBut.trans z11_2_ hk (.inl rfl)); replace HB := Aside0.mk (hb); replace HI0 := Aside0.mk (hi)) | (refine bx_ 3 #[.slice none 0 0] 28 ?_; intro gb319 hg w7 hbox hb; replace HO316 := Aside0.mk (Kd.R_below (rr_ HO316.out) hb); replace HB := Aside0.mk (below_step (by repeat (first | (with_reducible first | exact HB.out | apply below_alloc | apply pw_below_drewN | apply below_drew1 | refine below_set ?_ (IsS74.ge HI0.out) | refine below_set ?_ GE313.out) | exact HB.out)) hb); have BK319 := Aside0.mk (hbox); have GW319 := Aside0.mk ((by rw [hg]; exact (keep_size (w := w) (g := g) (row := none) z11_2_) : w.heap.size ≤ gb319)); have GE319 := Aside0.mk ((Nat.le_trans HW0.out (by rw [hg]; exact (keep_size (w := w) (g := g) (row := none) z11_2_) : w.heap.size ≤ gb319) : w0.heap.size ≤ gb319)); replace HK := Aside0.mk (KeepBut.trans z11_2_ (KeepBut.of_below hb g none) (.inl rfl)); have NB313_319 := nl_ BK313 z11_1_ hg; have NB319_313 := ns_ NB313_319; replace BK313 := bb_ BK313 z11_1_ hb; have NB0_319 := Aside0.mk ((by rw [hg]; exact Nat.ne_of_lt (IsS74.lt (show IsS74 w0 _ g s0_0 t317 t318 from by repeat (first | (with_reducible first | exact HI0.out | apply IsS74.alloc | apply IsS74.drewN | apply IsS74.drew | apply IsS74.set_1 | apply IsS74.set_2 | refine IsS74.far ?_ NB0_313.out _) | exact HI0.out))) : g ≠ gb319)); have NB319_0 := Aside0.mk ((by rw [hg]; exact Nat.ne_of_gt (IsS74.lt (show IsS74 w0 _ g s0_0 t317 t318 from by repeat (first | (with_reducible first | exact HI0.out | apply IsS74.alloc | apply IsS74.drewN | apply IsS74.drew | apply IsS74.set_1 | apply IsS74.set_2 | refine IsS74.far ?_ NB0_313.out _) | exact HI0.out))) : gb319 ≠ g)); replace HI0 := Aside0.mk (IsS74.below (by repeat (first | (with_reducible first | exact HI0.out | apply IsS74.alloc | apply IsS74.drewN | apply IsS74.drew | apply IsS74.set_1 | apply IsS74.set_2 | refine IsS74.far ?_ NB0_313.out _) | exact HI0.out)) hb); clear hb hbox hg; obtain ⟨Ao8, co8, eo8⟩ := Kd.R_slice HO316.out; subst eo8; have hnb9 := NB319_313.out; have hnc9 := NB313_319.out; have hnb10 := NB319_0.out; have hnc10 := NB0_319.out; have hcz11_0 : w7.cell? ⟨gb319, 0, none⟩ = some (.slice none 0 0) := (blk_cell BK319.out 0).trans rfl; have hfz11_0 := blk_frozen BK319.out 0) | ((with_reducible refine gc_ 61 rfl ?_); refine gL_ 7 Tryz.func61 #[.pointer (some ⟨g, 0, none⟩), .int .i64 12] ?_; (with_reducible refine (spec_l1Cur_pick.calls g s0_0 t317 t318 12 t320 t321 t322 w0 _ ?side1 ?side2 A3.out).mono ?_); (case side1 => exact zc11_1_); (case side2 => exact zc11_3_); rintro e w12 ⟨rfl, hi, hb, hk⟩; refine ⟨_, rfl, ?_⟩; replace BK313 := Aside0.mk (KeepBut.blk hk (g' := gb313) (o := .cells #[.slice none 0 0] 28 (0, 0)) (by refine b_ ?_; refine blk_far ?_ NB313_319.out _; exact b_ BK313.out) NB313_0.out (by simp)); replace HO316 := Aside0.mk (Kd.R_mono (Kd.R_keep (IsS74.apart (show IsS74 w0 _ g s0_0 t317 t318 from by repeat (first | (with_reducible first | exact HI0.out | apply IsS74.alloc | apply IsS74.drewN | apply IsS74.drew | apply IsS74.set_1 | apply IsS74.set_2 | refine IsS74.far ?_ NB0_313.out _ | refine IsS74.far ?_ NB0_319.out _) | exact HI0.out)) (by refine rr_ ?_; exact (Kd.R_mono (Kd.R_far (p := ⟨gb319, 0, none⟩) (Kd.R_types HO316.out BK319.out (by decide)) (fun _ hk => hk.2) (.slice Ao8 t314.length co8)) (fun _ h_ => h_.1))) (by decide)) hk (fun _ h => h.2)) (fun _ h => h.1)); replace BK319 := Aside0.mk (KeepBut.blk hk (g' := gb319) (o := .cells #[.slice Ao8 t314.length co8] 28 (0, 0)) (by refine b_ ?_; refine blk_put (cs := #[.slice none 0 0]) ?_ 0 _ rfl; exact b_ BK319.out) NB319_0.out (by simp)); replace HK := Aside0.mk (KeepBut.trans z11_0_ hk (.inl rfl)); replace HB := Aside0.mk (hb); replace HI0 := Aside0.mk (hi)))
 (try simp only [Act.put, List.setIfInBounds_toArray, List.set_cons_zero, List.set_cons_succ])
 go_cut [8] (fun v8 wc => ∃ (kq : Nat) (x8_3 : Bool), v8 = .bool x8_3 ∧ Aside0 (spec_l1Cur_puzzle.j0 kq t320 x8_3 s0_0 t321 t322 t314 = some (r1, r2, r3)) ∧ Aside0 (kq ≤ k) ∧ Aside0 (Kd.R k37 37 wc w.heap.size (fun _ => True) (.slice Ao8 t314.length co8) t314) ∧ Aside0 (wc.heap[gb313]? = some (.cells #[(.slice none 0 0)] 28 (0, 0))) ∧ Aside0 (wc.heap[gb319]? = some (.cells #[(.slice Ao8 t314.length co8)] 28 (0, 0))) ∧ Aside0 (IsS74 w0 wc g s0_0 t321 t322) ∧ Aside0 (KeepBut w wc g none) ∧ Aside0 (Below w0.heap.size w0 wc))
 case first =>
  have H := HC4.out
  clear HC4
  by_cases c13 : t320 = 0
  · obtain ⟨H, c13b0, c13b1⟩ := ep_ c13 H
    clear c13
    (first | rw [c13b0] | (simp only [i64_w, i32_w]; rw [c13b0]) | skip)
    have H' := Aside0.mk H
    clear H
    go_wp2
    go_meet
    case rel => exact ⟨_, ((t320 == 0)), zV_, H', ⟨by first | omega | exact Nat.le_refl _⟩, ⟨rr_ HO316.out⟩, ⟨b_ BK313.out⟩, ⟨b_ BK319.out⟩, ⟨by repeat (first | (with_reducible first | exact HI0.out | apply IsS74.alloc | apply IsS74.drewN | apply IsS74.drew | apply IsS74.set_1 | apply IsS74.set_2 | refine IsS74.far ?_ NB0_313.out _ | refine IsS74.far ?_ NB0_319.out _) | exact HI0.out)⟩, ⟨by repeat (first | (with_reducible first | exact HK.out | apply KeepBut.set_ | apply keep_drewN | apply keep_drew | apply keep_alloc | refine keep_far ?_ GW313.out _ | refine keep_far ?_ GW319.out _) | exact HK.out)⟩, ⟨by repeat (first | (with_reducible first | exact HB.out | apply below_alloc | apply pw_below_drewN | apply below_drew1 | refine below_set ?_ (IsS74.ge HI0.out) | refine below_set ?_ GE313.out | refine below_set ?_ GE319.out) | exact HB.out)⟩⟩
  obtain ⟨H, c13b0, c13b1⟩ := en_ c13 H
  (first | rw [c13b0] | (simp only [i64_w, i32_w]; rw [c13b0]) | skip)
  by_cases c14 : t320 = 1
  · obtain ⟨H, c14b0, c14b1⟩ := ep_ c14 H
    clear c14
    have H' := Aside0.mk H
    clear H
    go_wp2
    go_meet
    case rel => exact ⟨_, ((t320 == 1)), zV_, H', ⟨by first | omega | exact Nat.le_refl _⟩, ⟨rr_ HO316.out⟩, ⟨b_ BK313.out⟩, ⟨b_ BK319.out⟩, ⟨by repeat (first | (with_reducible first | exact HI0.out | apply IsS74.alloc | apply IsS74.drewN | apply IsS74.drew | apply IsS74.set_1 | apply IsS74.set_2 | refine IsS74.far ?_ NB0_313.out _ | refine IsS74.far ?_ NB0_319.out _) | exact HI0.out)⟩, ⟨by repeat (first | (with_reducible first | exact HK.out | apply KeepBut.set_ | apply keep_drewN | apply keep_drew | apply keep_alloc | refine keep_far ?_ GW313.out _ | refine keep_far ?_ GW319.out _) | exact HK.out)⟩, ⟨by repeat (first | (with_reducible first | exact HB.out | apply below_alloc | apply pw_below_drewN | apply below_drew1 | refine below_set ?_ (IsS74.ge HI0.out) | refine below_set ?_ GE313.out | refine below_set ?_ GE319.out) | exact HB.out)⟩⟩
  obtain ⟨H, c14b0, c14b1⟩ := en_ c14 H
  have H' := Aside0.mk H
  clear H
  go_wp2
  go_meet
  case rel => exact ⟨_, ((t320 == 2)), zV_, H', ⟨by first | omega | exact Nat.le_refl _⟩, ⟨rr_ HO316.out⟩, ⟨b_ BK313.out⟩, ⟨b_ BK319.out⟩, ⟨by repeat (first | (with_reducible first | exact HI0.out | apply IsS74.alloc | apply IsS74.drewN | apply IsS74.drew | apply IsS74.set_1 | apply IsS74.set_2 | refine IsS74.far ?_ NB0_313.out _ | refine IsS74.far ?_ NB0_319.out _) | exact HI0.out)⟩, ⟨by repeat (first | (with_reducible first | exact HK.out | apply KeepBut.set_ | apply keep_drewN | apply keep_drew | apply keep_alloc | refine keep_far ?_ GW313.out _ | refine keep_far ?_ GW319.out _) | exact HK.out)⟩, ⟨by repeat (first | (with_reducible first | exact HB.out | apply below_alloc | apply pw_below_drewN | apply below_drew1 | refine below_set ?_ (IsS74.ge HI0.out) | refine below_set ?_ GE313.out | refine below_set ?_ GE319.out) | exact HB.out)⟩⟩
 case rest =>
  clear HC4
  obtain ⟨kq, x8_3, rfl, HA, HJ3, HO_320000, BK313, BK319, HI0, HK, HB⟩ := hcut
  cases kq with
  | zero => exact absurd HA.out (by simp [spec_l1Cur_puzzle.j0])
  | succ kj3 =>
   have H := HA.out
   clear HA
   simp only [spec_l1Cur_puzzle.j0] at H
   by_cases c15 : x8_3 = true
   · subst c15
     rw [if_pos rfl] at H
     replace H := bd_ H; obtain ⟨⟨t323, t324, t325, t326, t327⟩, A16, H⟩ := H
     dsimp only at H
     replace H := gd_ H; obtain ⟨c17, H⟩ := H
     have LMc17 := Aside0.mk c17
     clear c17
     obtain ⟨y328, hy328⟩ : ∃ y_ : List (S37), y_ = (t314 ++ [(⟨t323, t324, t325⟩ : S37)]) := ⟨_, rfl⟩
     replace H : (some (y328, t326, t327)) = some (r1, r2, r3) := by first | (rw [hy328]; with_reducible exact H) | (have H2_ := (Option.bind_some _ _).symm.trans H; rw [hy328]; with_reducible exact H2_) | (have H2_ := (Option.bind_some _ _).symm.trans H; with_reducible exact H2_) | with_reducible exact H | (rw [hy328]; exact H) | exact H
     have Ny328 := Aside0.mk hy328
     clear hy328
     simp only [Option.some.injEq, Prod.mk.injEq] at H
     obtain ⟨rfl, rfl, rfl⟩ := H
     try go_wp2
     replace HO_320000 := Aside0.mk (Kd.R_drew HO_320000.out)
     replace BK313 := Aside0.mk (blk_drew BK313.out)
     replace BK319 := Aside0.mk (blk_drew BK319.out)
     replace HI0 := Aside0.mk (IsS74.drew HI0.out)
     replace HK := Aside0.mk (keep_drew HK.out)
     replace HB := Aside0.mk (below_drew1 HB.out)
     refine start_ (n := 8) (S := fun w' => w'.cell? ⟨gb319, 0, none⟩ = some (.slice Ao8 t314.length co8)) (ds := [7]) #[false, false, false, false, false, false, false, false] (by kernel_rfl) rfl rfl ((blk_cell BK319.out 0).trans rfl) (fun hHeld => ?_); refine with_tabW spec_l1Cur_puzzle.tab6 spec_l1Cur_puzzle.bits6 (fun HT_ HW_ => ?_)
     generalize wc.drew = w18 at HO_320000 BK313 BK319 HI0 HK HB hHeld ⊢
     refine pq_ 0 12 ?_
     refine pq_ 2 14 ?_
     refine take_ (i := 1) (N := some 13) (v := ?_) (a' := ?_) #[true, true, true, false, false, false, false, false] rfl rfl (take_ofW HT_.out HW_.out (by kernel_rfl)) (fun _ _ _ h => h) (Or.inl ⟨by rfl, ?_⟩) hHeld ?_ ?_
     rotate_left
     · intro w' s0
       go_simp
       with_reducible rfl
     rotate_left
     · simp only [Act.put, List.setIfInBounds_toArray, List.set_cons_zero, List.set_cons_succ, i64_w, i32_w]
       rfl
     refine one_ (i := 3) (N := some 15) #[true, true, true, true, false, false, false, false] rfl rfl (one_of HT_.out (by kernel_rfl)) (by decide) (fun K hK => ?_)
     refine goes_ Tryz.func84 (by kernel_rfl) rfl #[.pointer (some ⟨g, 0, none⟩)] (by rfl) rfl rfl z11_3_ ?_
     with_reducible refine (spec_l1Cur_clue.calls kj3 g s0_0 t321 t322 t323 t324 t325 t326 t327 w0 _ ?side1 ?side2 A16.out).mono ?_
     (case side1 => exact zc11_1_)
     (case side2 => exact zc11_3_)
     rintro e w19 ⟨rfl, hi, hb, hk⟩
     refine ⟨_, rfl, ?_⟩
     replace HO_320000 := Aside0.mk (Kd.R_mono (Kd.R_keep (IsS74.apart (show IsS74 w0 _ g s0_0 t321 t322 from by repeat (first | (with_reducible first | exact HI0.out | apply IsS74.alloc | apply IsS74.drewN | apply IsS74.drew | apply IsS74.set_1 | apply IsS74.set_2 | refine IsS74.far ?_ NB0_313.out _ | refine IsS74.far ?_ NB0_319.out _) | exact HI0.out)) z11_5_ (by decide)) hk (fun _ h => h.2)) (fun _ h => h.1))
     replace BK313 := Aside0.mk (KeepBut.blk hk (g' := gb313) (o := .cells #[.slice none 0 0] 28 (0, 0)) z11_1_ NB313_0.out (by simp))
     replace BK319 := Aside0.mk (KeepBut.blk hk (g' := gb319) (o := .cells #[.slice Ao8 t314.length co8] 28 (0, 0)) z11_4_ NB319_0.out (by simp))
     replace HK := Aside0.mk (KeepBut.trans z11_0_ hk (.inl rfl))
     replace HB := Aside0.mk (hb)
     replace HI0 := Aside0.mk (hi)
     
     
     
     
     refine hK.out _ _ ((blk_cell BK319.out 0).trans rfl) (fun hHeld => ?_)
     clear hK K
     refine norm_ (a' := ?_) ?_ ?_
     rotate_left
     · show Act.put _ (some 15) _ = _
       simp only [Act.put, List.setIfInBounds_toArray, List.set_cons_zero, List.set_cons_succ, i64_w, i32_w]
       rfl
     refine one_ (i := 4) (N := some 16) #[true, true, true, true, true, false, false, false] rfl rfl (one_of HT_.out (by kernel_rfl)) (by decide) (fun K hK => ?_)
     refine value_ (w1 := ?_) (v := ?_) (by rfl) rfl ?_ ?_
     rotate_left 2
     · go_simp
       constructor
       · rfl
       rfl
     refine hK.out _ _ ((blk_cell (blk_alloc BK319.out _) 0).trans rfl) (fun hHeld => ?_)
     clear hK K
     refine norm_ (a' := ?_) ?_ ?_
     rotate_left
     · show Act.put _ (some 16) _ = _
       simp only [Act.put, List.setIfInBounds_toArray, List.set_cons_zero, List.set_cons_succ, i64_w, i32_w]
       rfl
     refine one_ (i := 5) (N := some 17) #[true, true, true, true, true, true, false, false] rfl rfl (one_of HT_.out (by kernel_rfl)) (by decide) (fun K hK => ?_)
     refine Kd.R_append_step k37 w.heap.size (by rfl) (.tmp 13) (.tmp 16) 26 37 (.agg #[(.int .i64 0), (.int .i64 0), (.int .i64 0)]) 24 rfl Tryz.underlying26 info37 rfl (by decide) (by omega) (.slice Ao8 t314.length co8) t314 (⟨t323, t324, t325⟩ : S37) [.int .i64 t323, .int .i64 t324, .int .i64 t325] (fun _ => True) (fun _ => False) rfl rfl ?aP (fun _ hk => hk.elim) ?aF ?aO (Below.refl _ _) ?aS ?aL ?_
     (case aP => exact k37_mkM _ _ _ (⟨t323, t324, t325⟩ : S37))
     (case aF => exact (fun _ _ => trivial))
     (case aO => exact z11_5_)
     (case aS => exact (keep_size (w := w) (g := g) (row := none) z11_0_))
     (case aL => have := LMc17.out; omega)
     intro v329 w20 ho hb hg hat
     rw [← Ny328.out] at ho
     replace BK313 := Aside0.mk (blk_grown (g := gb313) (o := .cells #[.slice none 0 0] 28 (0, 0)) z11_1_ hg (Kd.R_ne HO_320000.out BK313.out (by decide)))
     replace BK319 := Aside0.mk (blk_grown (g := gb319) (o := .cells #[.slice Ao8 t314.length co8] 28 (0, 0)) z11_4_ hg (Kd.R_ne HO_320000.out BK319.out (by decide)))
     replace HB := Aside0.mk (below_weaken z11_8_ HL.out hb)
     replace HI0 := Aside0.mk (IsS74.grown z11_7_ hg (IsS74.own_ne HI0.out HO_320000.out (by decide)))
     replace HK := Aside0.mk (KeepBut.trans z11_0_ (KeepBut.of_grown hg g) (Kd.R_base2 HO_320000.out))
     have HO330 := Aside0.mk (ho)
     clear HO_320000
     clear ho hb hg hat
     obtain ⟨Ao21, co21, eo21⟩ := Kd.R_slice HO330.out
     (first | subst eo21 | (injection eo21 with f1_ f2_ f3_; have f4_ := f1_.symm; have f5_ := f3_.symm; clear f1_ f2_ f3_; subst f4_; subst f5_))
     refine hK.out _ _ ((blk_cell BK319.out 0).trans rfl) (fun hHeld => ?_)
     clear hK K
     refine norm_ (a' := ?_) ?_ ?_
     rotate_left
     · show Act.put _ (some 17) _ = _
       simp only [Act.put, List.setIfInBounds_toArray, List.set_cons_zero, List.set_cons_succ, i64_w, i32_w]
       rfl
     refine pq_ 6 18 ?_
     refine last_ (i := 7) (N := none) #[true, true, true, true, true, true, true, true] rfl rfl (one_of HT_.out (by kernel_rfl)) (by decide) (fun K hK => ?_)
     have hs22 : w20.cell? ⟨gb319, 0, none⟩ = some (.slice Ao8 t314.length co8) := (blk_cell BK319.out 0).trans rfl
     have hfs22 := blk_frozen BK319.out 0
     have hns22_0 := NB313_319.out
     have hms22_0 := NB319_313.out
     refine skip_ (w1 := ?_) (by rfl) rfl ?_ ?_
     rotate_left
     · go_simp
       rfl
     refine hK.out _ _ ?_
     clear hK K
     refine done_ (done_of HT_.out (by kernel_rfl)) ?_
     have hnb23 := NB319_313.out
     have hnc23 := NB313_319.out
     have hnb24 := NB319_0.out
     have hnc24 := NB0_319.out
     have hcz25_0 : w20.cell? ⟨gb319, 0, none⟩ = some (.slice Ao8 t314.length co8) := (blk_cell BK319.out 0).trans rfl
     have hfz25_0 := blk_frozen BK319.out 0
     have hnb26 := NB313_0.out
     have hnc26 := NB0_313.out
     have hcz27_0 : w20.cell? ⟨gb313, 0, none⟩ = some (.slice none 0 0) := (blk_cell BK313.out 0).trans rfl
     have hfz27_0 := blk_frozen BK313.out 0
     try go_wp2
     refine bodyPost_ret (results_cell_row rfl _ _ gb313 28 #[.slice Ao21 y328.length co21] (0, 0) _ rfl (by refine b_ ?_; refine blk_put (cs := #[.slice none 0 0]) ?_ 0 _ rfl; refine b_ ?_; refine blk_far ?_ NB313_319.out _; exact b_ BK313.out) Tryz.underlying28 rfl (by kernel_rfl)) rfl ?_
     exact ⟨_, by first | rfl | (simp [errW_none, errW_some] <;> rfl) | (simp [*, errW_none, errW_some] <;> rfl), by refine rr_ ?_; exact Kd.R_mono (Kd.R_far (p := ⟨gb313, 0, none⟩) (Kd.R_far (p := ⟨gb319, 0, none⟩) (Kd.R_types (Kd.R_types HO330.out BK319.out (by decide)) BK313.out (by decide)) (fun _ hk => hk.1.2) (.slice Ao21 y328.length co21)) (fun _ hk => hk.2) (.slice Ao21 y328.length co21)) (fun _ hk => trivial), by repeat (first | (with_reducible first | exact HI0.out | apply IsS74.alloc | apply IsS74.drewN | apply IsS74.drew | apply IsS74.set_1 | apply IsS74.set_2 | refine IsS74.far ?_ NB0_313.out _ | refine IsS74.far ?_ NB0_319.out _) | exact HI0.out), by repeat (first | (with_reducible first | exact HB.out | apply below_alloc | apply pw_below_drewN | apply below_drew1 | refine below_set ?_ (IsS74.ge HI0.out) | refine below_set ?_ GE313.out | refine below_set ?_ GE319.out) | exact HB.out), by repeat (first | (with_reducible first | exact HK.out | apply KeepBut.set_ | apply keep_drewN | apply keep_drew | apply keep_alloc | refine keep_far ?_ GW313.out _ | refine keep_far ?_ GW319.out _) | exact HK.out)⟩
   replace H := bf_ c15 H; obtain ⟨rfl, H⟩ := H
   by_cases c28 : t320 = 3
   · obtain ⟨H, c28b0, c28b1⟩ := ep_ c28 H
     clear c28
     have H' := Aside0.mk H
     clear H
     go_wp2
     go_loopg [] kj3 (fun kq w' => ∃ (x1001_2 : Int) (x1002_2 : Int) (x320000_2 : List (S37)) (u320000 : Value), Aside0 (spec_l1Cur_puzzle.l0 kq s0_0 x1001_2 x1002_2 x320000_2 = some (r1, r2, r3)) ∧ Aside0 (kq ≤ kj3) ∧ Aside0 (Kd.R k37 37 w' w.heap.size (fun _ => True) u320000 x320000_2) ∧ Aside0 (w'.heap[gb313]? = some (.cells #[(.slice none 0 0)] 28 (0, 0))) ∧ Aside0 (w'.heap[gb319]? = some (.cells #[u320000] 28 (0, 0))) ∧ Aside0 (IsS74 w0 w' g s0_0 x1001_2 x1002_2) ∧ Aside0 (KeepBut w w' g none) ∧ Aside0 (Below w0.heap.size w0 w'))
     case atStart => exact ⟨(t321), (t322), (t314), (.slice Ao8 t314.length co8), H', ⟨Nat.le_refl _⟩, ⟨rr_ HO_320000.out⟩, ⟨b_ BK313.out⟩, ⟨b_ BK319.out⟩, ⟨by repeat (first | (with_reducible first | exact HI0.out | apply IsS74.alloc | apply IsS74.drewN | apply IsS74.drew | apply IsS74.set_1 | apply IsS74.set_2 | refine IsS74.far ?_ NB0_313.out _ | refine IsS74.far ?_ NB0_319.out _) | exact HI0.out)⟩, ⟨by repeat (first | (with_reducible first | exact HK.out | apply KeepBut.set_ | apply keep_drewN | apply keep_drew | apply keep_alloc | refine keep_far ?_ GW313.out _ | refine keep_far ?_ GW319.out _) | exact HK.out)⟩, ⟨by repeat (first | (with_reducible first | exact HB.out | apply below_alloc | apply pw_below_drewN | apply below_drew1 | refine below_set ?_ (IsS74.ge HI0.out) | refine below_set ?_ GE313.out | refine below_set ?_ GE319.out) | exact HB.out)⟩⟩
     case round =>
      clear H'
      obtain ⟨x1001_2, x1002_2, x320000_2, u320000, HA, HK2, HO_320000, BK313, BK319, HI0, HK, HB⟩ := hrel
      cases gk with
      | zero => exact absurd HA.out (by simp [spec_l1Cur_puzzle.l0])
      | succ k2 =>
       have H := HA.out
       clear HA
       simp only [spec_l1Cur_puzzle.l0] at H
       replace H := bd_ H; obtain ⟨⟨t331, t332, t333⟩, A29, H⟩ := H
       dsimp only at H
       by_cases c30 : (x320000_2.length : Int) < (wrap64 (6 + t331))
       · rw [if_pos c30] at H
         have c30b0 := decide_eq_true c30
         clear c30
         replace H := gd_ H; obtain ⟨c31, H⟩ := H
         have LMc31 := Aside0.mk c31
         clear c31
         obtain ⟨y334, hy334⟩ : ∃ y_ : List (S37), y_ = (x320000_2 ++ [(⟨0, 0, 5⟩ : S37)]) := ⟨_, rfl⟩
         replace H : (spec_l1Cur_puzzle.l0 k2 s0_0 t332 t333 y334) = some (r1, r2, r3) := by first | (rw [hy334]; with_reducible exact H) | (have H2_ := (Option.bind_some _ _).symm.trans H; rw [hy334]; with_reducible exact H2_) | (have H2_ := (Option.bind_some _ _).symm.trans H; with_reducible exact H2_) | with_reducible exact H | (rw [hy334]; exact H) | exact H
         have Ny334 := Aside0.mk hy334
         clear hy334
         have H' := Aside0.mk H
         clear H
         try go_wp2
         replace HO_320000 := Aside0.mk (Kd.R_drew HO_320000.out)
         replace BK313 := Aside0.mk (blk_drew BK313.out)
         replace BK319 := Aside0.mk (blk_drew BK319.out)
         replace HI0 := Aside0.mk (IsS74.drew HI0.out)
         replace HK := Aside0.mk (keep_drew HK.out)
         replace HB := Aside0.mk (below_drew1 HB.out)
         obtain ⟨Ao33, co33, eo33⟩ := Kd.R_slice HO_320000.out
         (first | subst eo33 | (injection eo33 with f1_ f2_ f3_; have f4_ := f1_.symm; have f5_ := f3_.symm; clear f1_ f2_ f3_; subst f4_; subst f5_))
         refine start_ (n := 7) (S := fun w' => w'.cell? ⟨gb319, 0, none⟩ = some (.slice Ao33 x320000_2.length co33)) (ds := []) #[false, false, false, false, false, false, false] (by kernel_rfl) rfl rfl ((blk_cell BK319.out 0).trans rfl) (fun hHeld => ?_)
         generalize wr.drew = w32 at HO_320000 BK313 BK319 HI0 HK HB hHeld ⊢
         refine pq_ 0 21 ?_
         refine pq_ 3 24 ?_
         refine take_ (i := 1) (N := some 22) (v := ?_) (a' := ?_) #[true, true, false, true, false, false, false] rfl rfl (by kernel_rfl) (fun _ _ _ h => h) (Or.inl ⟨by rfl, ?_⟩) hHeld ?_ ?_
         rotate_left
         · intro w' s0
           go_simp
           with_reducible rfl
         rotate_left
         · simp only [Act.put, List.setIfInBounds_toArray, List.set_cons_zero, List.set_cons_succ, i64_w, i32_w]
           rfl
         refine pq_ 2 23 ?_
         refine one_ (i := 4) (N := some 25) #[true, true, true, true, true, false, false] rfl rfl (by kernel_rfl) (by decide) (fun K hK => ?_)
         refine goes_ Tryz.func61 (by kernel_rfl) rfl #[.pointer (some ⟨g, 0, none⟩), .int .i64 2] (by rfl) rfl rfl z11_3_ ?_
         with_reducible refine (spec_l1Cur_pick.calls g s0_0 x1001_2 x1002_2 2 t331 t332 t333 w0 _ ?side1 ?side2 A29.out).mono ?_
         (case side1 => exact zc11_1_)
         (case side2 => exact zc11_3_)
         rintro e w34 ⟨rfl, hi, hb, hk⟩
         refine ⟨_, rfl, ?_⟩
         replace HO_320000 := Aside0.mk (Kd.R_mono (Kd.R_keep (IsS74.apart (show IsS74 w0 _ g s0_0 x1001_2 x1002_2 from by repeat (first | (with_reducible first | exact HI0.out | apply IsS74.alloc | apply IsS74.drewN | apply IsS74.drew | apply IsS74.set_1 | apply IsS74.set_2 | refine IsS74.far ?_ NB0_313.out _ | refine IsS74.far ?_ NB0_319.out _) | exact HI0.out)) z11_5_ (by decide)) hk (fun _ h => h.2)) (fun _ h => h.1))
         replace BK313 := Aside0.mk (KeepBut.blk hk (g' := gb313) (o := .cells #[.slice none 0 0] 28 (0, 0)) z11_1_ NB313_0.out (by simp))
         replace BK319 := Aside0.mk (KeepBut.blk hk (g' := gb319) (o := .cells #[.slice Ao33 x320000_2.length co33] 28 (0, 0)) z11_4_ NB319_0.out (by simp))
         replace HK := Aside0.mk (KeepBut.trans z11_0_ hk (.inl rfl))
         replace HB := Aside0.mk (hb)
         replace HI0 := Aside0.mk (hi)
         
         
         
         
         refine hK.out _ _ ((blk_cell BK319.out 0).trans rfl) (fun hHeld => ?_)
         clear hK K
         refine norm_ (a' := ?_) ?_ ?_
         rotate_left
         · show Act.put _ (some 25) _ = _
           simp only [Act.put, List.setIfInBounds_toArray, List.set_cons_zero, List.set_cons_succ, i64_w, i32_w]
           rfl
         refine pq_ 5 26 ?_
         refine pq_ 6 27 ?_
         refine done_ (by kernel_rfl) ?_
         have hnb35 := NB319_313.out
         have hnc35 := NB313_319.out
         have hnb36 := NB319_0.out
         have hnc36 := NB0_319.out
         have hcz37_0 : w34.cell? ⟨gb319, 0, none⟩ = some (.slice Ao33 x320000_2.length co33) := (blk_cell BK319.out 0).trans rfl
         have hfz37_0 := blk_frozen BK319.out 0
         try go_wp2_with (first | ((with_reducible refine gate_builtin (b := .append) (xs := #[.tmp 29, .tmp 31]) rfl ?_); at_builtin; refine Kd.R_append k37 w.heap.size rfl (.tmp 29) (.tmp 31) 26 37 (.agg #[(.int .i64 0), (.int .i64 0), (.int .i64 0)]) 24 rfl Tryz.underlying26 info37 rfl (by decide) (by omega) (.slice Ao33 x320000_2.length co33) x320000_2 (⟨0, 0, 5⟩ : S37) [.int .i64 0, .int .i64 0, .int .i64 5] (fun _ => True) (fun _ => False) rfl rfl ?aP (fun _ hk => hk.elim) ?aF ?aO (Below.refl _ _) ?aS ?aL ?_; (case aP => exact k37_mkM _ _ _ (⟨0, 0, 5⟩ : S37)); (case aF => exact (fun _ _ => trivial)); (case aO => exact z11_5_); (case aS => exact (keep_size (w := w) (g := g) (row := none) z11_0_)); (case aL => have := LMc31.out; omega); intro v335 w38 ho hb hg hat; rw [← Ny334.out] at ho; replace BK313 := Aside0.mk (blk_grown (g := gb313) (o := .cells #[.slice none 0 0] 28 (0, 0)) z11_1_ hg (Kd.R_ne HO_320000.out BK313.out (by decide))); replace BK319 := Aside0.mk (blk_grown (g := gb319) (o := .cells #[.slice Ao33 x320000_2.length co33] 28 (0, 0)) z11_4_ hg (Kd.R_ne HO_320000.out BK319.out (by decide))); replace HB := Aside0.mk (below_weaken z11_8_ HL.out hb); replace HI0 := Aside0.mk (IsS74.grown z11_7_ hg (IsS74.own_ne HI0.out HO_320000.out (by decide))); replace HK := Aside0.mk (KeepBut.trans z11_0_ (KeepBut.of_grown hg g) (Kd.R_base2 HO_320000.out)); have HO336 := Aside0.mk (ho); clear HO_320000; clear ho hb hg hat; obtain ⟨Ao39, co39, eo39⟩ := Kd.R_slice HO336.out; subst eo39; have hcz40_0 : w38.cell? ⟨gb319, 0, none⟩ = some (.slice Ao33 x320000_2.length co33) := (blk_cell BK319.out 0).trans rfl; have hfz40_0 := blk_frozen BK319.out 0))
         go_roundg k2
         case measure => have := HJ3.out; have := HK2.out; omega
         case rel => exact ⟨(t332), (t333), (y334), (.slice Ao39 y334.length co39), H', ⟨by have := HJ3.out; have := HK2.out; omega⟩, ⟨by refine rr_ ?_; exact Kd.R_mono (Kd.R_far (p := ⟨gb319, 0, none⟩) (Kd.R_types HO336.out BK319.out (by decide)) (fun _ hk => hk.2) (.slice Ao39 y334.length co39)) (fun _ hk => trivial)⟩, ⟨by refine b_ ?_; refine blk_far ?_ NB313_319.out _; exact b_ BK313.out⟩, ⟨by refine b_ ?_; refine blk_put (cs := #[.slice Ao33 x320000_2.length co33]) ?_ 0 _ rfl; exact b_ BK319.out⟩, ⟨by repeat (first | (with_reducible first | exact HI0.out | apply IsS74.alloc | apply IsS74.drewN | apply IsS74.drew | apply IsS74.set_1 | apply IsS74.set_2 | refine IsS74.far ?_ NB0_313.out _ | refine IsS74.far ?_ NB0_319.out _) | exact HI0.out)⟩, ⟨by repeat (first | (with_reducible first | exact HK.out | apply KeepBut.set_ | apply keep_drewN | apply keep_drew | apply keep_alloc | refine keep_far ?_ GW313.out _ | refine keep_far ?_ GW319.out _) | exact HK.out)⟩, ⟨by repeat (first | (with_reducible first | exact HB.out | apply below_alloc | apply pw_below_drewN | apply below_drew1 | refine below_set ?_ (IsS74.ge HI0.out) | refine below_set ?_ GE313.out | refine below_set ?_ GE319.out) | exact HB.out)⟩⟩
       rw [if_neg c30] at H
       have c30b0 := decide_eq_false c30
       clear c30
       simp only [Option.some.injEq, Prod.mk.injEq] at H
       obtain ⟨rfl, rfl, rfl⟩ := H
       try go_wp2
       replace HO_320000 := Aside0.mk (Kd.R_drew HO_320000.out)
       replace BK313 := Aside0.mk (blk_drew BK313.out)
       replace BK319 := Aside0.mk (blk_drew BK319.out)
       replace HI0 := Aside0.mk (IsS74.drew HI0.out)
       replace HK := Aside0.mk (keep_drew HK.out)
       replace HB := Aside0.mk (below_drew1 HB.out)
       obtain ⟨Ao42, co42, eo42⟩ := Kd.R_slice HO_320000.out
       (first | subst eo42 | (injection eo42 with f1_ f2_ f3_; have f4_ := f1_.symm; have f5_ := f3_.symm; clear f1_ f2_ f3_; subst f4_; subst f5_))
       refine start_ (n := 7) (S := fun w' => w'.cell? ⟨gb319, 0, none⟩ = some (.slice Ao42 x320000_2.length co42)) (ds := []) #[false, false, false, false, false, false, false] (by kernel_rfl) rfl rfl ((blk_cell BK319.out 0).trans rfl) (fun hHeld => ?_)
       generalize wr.drew = w41 at HO_320000 BK313 BK319 HI0 HK HB hHeld ⊢
       refine pq_ 0 21 ?_
       refine pq_ 3 24 ?_
       refine take_ (i := 1) (N := some 22) (v := ?_) (a' := ?_) #[true, true, false, true, false, false, false] rfl rfl (by kernel_rfl) (fun _ _ _ h => h) (Or.inl ⟨by rfl, ?_⟩) hHeld ?_ ?_
       rotate_left
       · intro w' s0
         go_simp
         with_reducible rfl
       rotate_left
       · simp only [Act.put, List.setIfInBounds_toArray, List.set_cons_zero, List.set_cons_succ, i64_w, i32_w]
         rfl
       refine pq_ 2 23 ?_
       refine one_ (i := 4) (N := some 25) #[true, true, true, true, true, false, false] rfl rfl (by kernel_rfl) (by decide) (fun K hK => ?_)
       refine goes_ Tryz.func61 (by kernel_rfl) rfl #[.pointer (some ⟨g, 0, none⟩), .int .i64 2] (by rfl) rfl rfl z11_3_ ?_
       with_reducible refine (spec_l1Cur_pick.calls g s0_0 x1001_2 x1002_2 2 t331 t332 t333 w0 _ ?side1 ?side2 A29.out).mono ?_
       (case side1 => exact zc11_1_)
       (case side2 => exact zc11_3_)
       rintro e w43 ⟨rfl, hi, hb, hk⟩
       refine ⟨_, rfl, ?_⟩
       replace HO_320000 := Aside0.mk (Kd.R_mono (Kd.R_keep (IsS74.apart (show IsS74 w0 _ g s0_0 x1001_2 x1002_2 from by repeat (first | (with_reducible first | exact HI0.out | apply IsS74.alloc | apply IsS74.drewN | apply IsS74.drew | apply IsS74.set_1 | apply IsS74.set_2 | refine IsS74.far ?_ NB0_313.out _ | refine IsS74.far ?_ NB0_319.out _) | exact HI0.out)) z11_5_ (by decide)) hk (fun _ h => h.2)) (fun _ h => h.1))
       replace BK313 := Aside0.mk (KeepBut.blk hk (g' := gb313) (o := .cells #[.slice none 0 0] 28 (0, 0)) z11_1_ NB313_0.out (by simp))
       replace BK319 := Aside0.mk (KeepBut.blk hk (g' := gb319) (o := .cells #[.slice Ao42 x320000_2.length co42] 28 (0, 0)) z11_4_ NB319_0.out (by simp))
       replace HK := Aside0.mk (KeepBut.trans z11_0_ hk (.inl rfl))
       replace HB := Aside0.mk (hb)
       replace HI0 := Aside0.mk (hi)
       
       
       
       
       refine hK.out _ _ ((blk_cell BK319.out 0).trans rfl) (fun hHeld => ?_)
       clear hK K
       refine norm_ (a' := ?_) ?_ ?_
       rotate_left
       · show Act.put _ (some 25) _ = _
         simp only [Act.put, List.setIfInBounds_toArray, List.set_cons_zero, List.set_cons_succ, i64_w, i32_w]
         rfl
       refine pq_ 5 26 ?_
       refine pq_ 6 27 ?_
       refine done_ (by kernel_rfl) ?_
       have hnb44 := NB319_313.out
       have hnc44 := NB313_319.out
       have hnb45 := NB319_0.out
       have hnc45 := NB0_319.out
       have hcz46_0 : w43.cell? ⟨gb319, 0, none⟩ = some (.slice Ao42 x320000_2.length co42) := (blk_cell BK319.out 0).trans rfl
       have hfz46_0 := blk_frozen BK319.out 0
       have hnb47 := NB313_0.out
       have hnc47 := NB0_313.out
       have hcz48_0 : w43.cell? ⟨gb313, 0, none⟩ = some (.slice none 0 0) := (blk_cell BK313.out 0).trans rfl
       have hfz48_0 := blk_frozen BK313.out 0
       try go_wp2
       refine bodyPost_ret (results_cell_row rfl _ _ gb313 28 #[.slice Ao42 x320000_2.length co42] (0, 0) _ rfl z11_6_ Tryz.underlying28 rfl (by kernel_rfl)) rfl ?_
       exact ⟨_, by first | rfl | (simp [errW_none, errW_some] <;> rfl) | (simp [*, errW_none, errW_some] <;> rfl), by refine rr_ ?_; exact Kd.R_mono (Kd.R_far (p := ⟨gb313, 0, none⟩) (Kd.R_types HO_320000.out BK313.out (by decide)) (fun _ hk => hk.2) (.slice Ao42 x320000_2.length co42)) (fun _ hk => trivial), by repeat (first | (with_reducible first | exact HI0.out | apply IsS74.alloc | apply IsS74.drewN | apply IsS74.drew | apply IsS74.set_1 | apply IsS74.set_2 | refine IsS74.far ?_ NB0_313.out _ | refine IsS74.far ?_ NB0_319.out _) | exact HI0.out), by repeat (first | (with_reducible first | exact HB.out | apply below_alloc | apply pw_below_drewN | apply below_drew1 | refine below_set ?_ (IsS74.ge HI0.out) | refine below_set ?_ GE313.out | refine below_set ?_ GE319.out) | exact HB.out), by repeat (first | (with_reducible first | exact HK.out | apply KeepBut.set_ | apply keep_drewN | apply keep_drew | apply keep_alloc | refine keep_far ?_ GW313.out _ | refine keep_far ?_ GW319.out _) | exact HK.out)⟩
   obtain ⟨H, c28b0, c28b1⟩ := en_ c28 H
   simp only [Option.some.injEq, Prod.mk.injEq] at H
   obtain ⟨rfl, rfl, rfl⟩ := H
   have hnb49 := NB319_313.out
   have hnc49 := NB313_319.out
   have hnb50 := NB319_0.out
   have hnc50 := NB0_319.out
   have hcz51_0 : wc.cell? ⟨gb319, 0, none⟩ = some (.slice Ao8 t314.length co8) := (blk_cell BK319.out 0).trans rfl
   have hfz51_0 := blk_frozen BK319.out 0
   have hnb52 := NB313_0.out
   have hnc52 := NB0_313.out
   have hcz53_0 : wc.cell? ⟨gb313, 0, none⟩ = some (.slice none 0 0) := (blk_cell BK313.out 0).trans rfl
   have hfz53_0 := blk_frozen BK313.out 0
   go_wp2
   refine bodyPost_ret (results_cell_row rfl _ _ gb313 28 #[.slice Ao8 t314.length co8] (0, 0) _ rfl z11_6_ Tryz.underlying28 rfl (by kernel_rfl)) rfl ?_
   exact ⟨_, by first | rfl | (simp [errW_none, errW_some] <;> rfl) | (simp [*, errW_none, errW_some] <;> rfl), by refine rr_ ?_; exact Kd.R_mono (Kd.R_far (p := ⟨gb313, 0, none⟩) (Kd.R_types HO_320000.out BK313.out (by decide)) (fun _ hk => hk.2) (.slice Ao8 t314.length co8)) (fun _ hk => trivial), by repeat (first | (with_reducible first | exact HI0.out | apply IsS74.alloc | apply IsS74.drewN | apply IsS74.drew | apply IsS74.set_1 | apply IsS74.set_2 | refine IsS74.far ?_ NB0_313.out _ | refine IsS74.far ?_ NB0_319.out _) | exact HI0.out), by repeat (first | (with_reducible first | exact HB.out | apply below_alloc | apply pw_below_drewN | apply below_drew1 | refine below_set ?_ (IsS74.ge HI0.out) | refine below_set ?_ GE313.out | refine below_set ?_ GE319.out) | exact HB.out), by repeat (first | (with_reducible first | exact HK.out | apply KeepBut.set_ | apply keep_drewN | apply keep_drew | apply keep_alloc | refine keep_far ?_ GW313.out _ | refine keep_far ?_ GW319.out _) | exact HK.out)⟩

end Go.Proofs.YtebchgfjfobbbaaGreatDoor.PFnTicketsHidden

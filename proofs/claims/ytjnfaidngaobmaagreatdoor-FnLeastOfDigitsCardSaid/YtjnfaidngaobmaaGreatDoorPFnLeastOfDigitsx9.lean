-- Laid by this session's program gprint.py over the kit's print.
import Derived.Test.YtjnfaidngaobmaaGreatDoorZip
import Derived.Test.YtjnfaidngaobmaaGreatDoorPFnLeastOfDigitsx0
import Derived.Test.YtjnfaidngaobmaaGreatDoorPFnLeastOfDigitsx2
namespace Go.Proofs.YtjnfaidngaobmaaGreatDoor.PFnLeastOfDigits
open Go.RowKit Go.Proofs.YtjnfaidngaobmaaGreatDoorW.PrintWords Go.Proofs.YtjnfaidngaobmaaGreatDoorW.PrintLast Go.Proofs.YtjnfaidngaobmaaGreatDoorW.PrintMore
attribute [local go_sem] max2_int min2_int max_two min_two max_three min_three max_four min_four   -- for this text's walks alone
set_option linter.unusedVariables false
set_option linter.unusedSimpArgs false
theorem z9_2_ {p : Prop} (h : p := by (with_reducible repeat (first | apply Kd.R_alloc | apply Kd.R_drewN | apply Kd.R_drew)); exact HO_10.out) : p := h
theorem z9_3_ {p : Prop} (h : p := by (with_reducible repeat (first | apply Kd.R_alloc | apply Kd.R_drewN | apply Kd.R_drew)); exact HO_9.out) : p := h
theorem z9_4_ {p : Prop} (h : p := by (with_reducible repeat (first | apply Kd.R_alloc | apply Kd.R_drewN | apply Kd.R_drew)); exact HO_22.out) : p := h
theorem z9_5_ {p : Prop} (h : p := by (with_reducible repeat (first | apply Kd.R_alloc | apply Kd.R_drewN | apply Kd.R_drew)); exact HO_8.out) : p := h
theorem z9_7_ {p : Prop} (h : p := by (with_reducible repeat (first | apply Kd.R_alloc | apply Kd.R_drewN | apply Kd.R_drew)); exact HO326.out) : p := h
theorem z9_8_ {p : Prop} (h : p := by (with_reducible repeat (first | apply Kd.R_alloc | apply Kd.R_drewN | apply Kd.R_drew)); exact HO_6.out) : p := h

/-! ### spec_leText: function 63 -/
def spec_leText.l0 : Nat → ByteArray → Int → Option (Bool)
 | 0, _, _ => none
 | k + 1, x0, x3 => if x3 < (x0.size : Int) then (if 0 ≤ x3 then (if (bt x0 x3) < 48 then (some false) else (if (bt x0 x3) > 57 then (some false) else (if x3 > 0 then (if 0 ≤ (wrap64 (x3 - 1)) then (if (wrap64 (x3 - 1)) < (x0.size : Int) then (if (bt x0 x3) ≤ (bt x0 (wrap64 (x3 - 1))) then (some false) else (spec_leText.l0 k x0 (wrap64 (x3 + 1)))) else (none)) else (none)) else (spec_leText.l0 k x0 (wrap64 (x3 + 1)))))) else (none)) else (some true)
def spec_leText.f (k : Nat) (a0 : ByteArray) : Option (Bool) := (spec_l1In.f (a0.size : Int) 1 10).bind fun t323 => (if t323 = true then (spec_leText.l0 k a0 0) else (some false))
theorem spec_leText.mono_l : ∀ k, (∀ y0 y1, LeO (spec_leText.l0 k y0 y1) (spec_leText.l0 (k + 1) y0 y1))
 | 0 => fun _ _ r h => by simp [spec_leText.l0] at h
 | k + 1 => by
  have ih0 := spec_leText.mono_l k
  intro y0 y1
  unfold spec_leText.l0
  repeat' first
  | (with_reducible exact ih0 _ _)
  | (with_reducible exact LeO.refl _)
  | (with_reducible exact LeO.none _)
  | (with_reducible refine LeO.ite ?_ ?_)
  | (with_reducible refine LeO.bind ?_ (fun _ => ?_))
  | exact LeO.none _
  | refine LeO.ite ?_ ?_
  | refine LeO.bind ?_ (fun _ => ?_)
theorem spec_leText.mono : ∀ a0 k, LeO (spec_leText.f k a0) (spec_leText.f (k + 1) a0) := by
 intro a0 k
 have ih0 := spec_leText.mono_l k
 unfold spec_leText.f
 repeat' first
  | (with_reducible exact ih0 _ _)
  | (with_reducible exact LeO.refl _)
  | (with_reducible exact LeO.none _)
  | (with_reducible refine LeO.ite ?_ ?_)
  | (with_reducible refine LeO.bind ?_ (fun _ => ?_))
  | exact LeO.none _
  | refine LeO.ite ?_ ?_
  | refine LeO.bind ?_ (fun _ => ?_)
set_option maxHeartbeats 8000000 in
set_option maxRecDepth 100000 in
theorem spec_leText.calls (k : Nat) (a0 : ByteArray) (r : Bool) (w : World) (h : spec_leText.f k a0 = some r) :
 Calls Tryz.prog 63 #[.string a0] w fun e w' => e = .returned (.bool r) ∧ Drawn0 w w' := by
 unfold spec_leText.f at h
 have H := h
 clear h
 replace H := bd_ H; obtain ⟨t323, A2, H⟩ := H
 by_cases c3 : t323 = true
 · subst c3
   rw [if_pos rfl] at H
   have H' := Aside0.mk H
   clear H
   go_enter Tryz.func63, Tryz.ntmps63
   go_wp2_with (first | (go_at_call 55; (with_reducible refine (spec_l1In.calls (a0.size : Int) 1 10 true _ A2.out).mono ?_); rintro e w' ⟨rfl, ⟨nd, rfl⟩⟩; (try first | exact ⟨rfl, _, World.drewN_drewN _ _ _⟩ | exact ⟨rfl, _, Eq.trans (World.drewN_drewN _ _ _) (congrArg (World.drewN _) (Nat.add_assoc _ _ _))⟩)))
   repeat (go_quiet (fail); try go_wp2_with (first | (go_at_call 55; (with_reducible refine (spec_l1In.calls (a0.size : Int) 1 10 true _ A2.out).mono ?_); rintro e w' ⟨rfl, ⟨nd, rfl⟩⟩; (try first | exact ⟨rfl, _, World.drewN_drewN _ _ _⟩ | exact ⟨rfl, _, Eq.trans (World.drewN_drewN _ _ _) (congrArg (World.drewN _) (Nat.add_assoc _ _ _))⟩))))
   go_loopg [3] k (fun kq v3 w' => ∃ (x3_1 : Int), v3 = .int .i64 x3_1 ∧ Aside0 (spec_leText.l0 kq a0 x3_1 = some r) ∧ Aside0 (kq ≤ k) ∧ Drawn0 w w')
   case atStart => exact ⟨(0), zV_, H', ⟨Nat.le_refl _⟩, by repeat (first | exact Drawn0.refl _ | apply Drawn0.step)⟩
   case round =>
    clear H'
    (try clear p2);(try clear c3)
    obtain ⟨x3_1, rfl, HA, HK1, ⟨m1, rfl⟩⟩ := hrel
    cases gk with
    | zero => exact absurd HA.out (by simp [spec_leText.l0])
    | succ k1 =>
     have H := HA.out
     clear HA
     simp only [spec_leText.l0] at H
     by_cases c4 : x3_1 < (a0.size : Int)
     · rw [if_pos c4] at H
       have c4b0 := decide_eq_true c4
       clear c4
       replace H := gd_ H; obtain ⟨c5, H⟩ := H
       have c5b0 : decide (0 ≤ x3_1) = true := decide_eq_true c5
       clear c5
       by_cases c7 : (bt a0 x3_1) < 48
       · rw [if_pos c7] at H
         have c7b0 := decide_eq_true c7
         clear c7
         obtain rfl := Option.some.inj H
         have p6 : 0 ≤ (x3_1 : Int) := of_decide_eq_true zS_
         have q6 : x3_1 < (a0.size : Int) := of_decide_eq_true zS_
         have hx6 := bt_at a0 x3_1
         replace p6 := eq_true p6
         replace q6 := eq_true q6
         go_wp2
         repeat (go_quiet (fail); try go_wp2)
         go_ret
         exact ⟨by first | rfl | (simp; done) | (simp [*]; done), by repeat (first | exact Drawn0.refl _ | apply Drawn0.step)⟩
       rw [if_neg c7] at H
       have c7b0 := decide_eq_false c7
       clear c7
       by_cases c9 : (bt a0 x3_1) > 57
       · rw [if_pos c9] at H
         have c9b0 : decide (57 < (bt a0 x3_1)) = true := decide_eq_true c9
         clear c9
         obtain rfl := Option.some.inj H
         have p6 : 0 ≤ (x3_1 : Int) := of_decide_eq_true zS_
         have q6 : x3_1 < (a0.size : Int) := of_decide_eq_true zS_
         have hx6 := bt_at a0 x3_1
         replace p6 := eq_true p6
         replace q6 := eq_true q6
         have p8 : 0 ≤ (x3_1 : Int) := of_decide_eq_true zS_
         have q8 : x3_1 < (a0.size : Int) := of_decide_eq_true zS_
         have hx8 := bt_at a0 x3_1
         replace p8 := eq_true p8
         replace q8 := eq_true q8
         go_wp2
         repeat (go_quiet (fail); try go_wp2)
         go_ret
         exact ⟨by first | rfl | (simp; done) | (simp [*]; done), by repeat (first | exact Drawn0.refl _ | apply Drawn0.step)⟩
       rw [if_neg c9] at H
       have c9b0 : decide (57 < (bt a0 x3_1)) = false := decide_eq_false c9
       clear c9
       by_cases c10 : x3_1 > 0
       · rw [if_pos c10] at H
         have c10b0 : decide (0 < x3_1) = true := decide_eq_true c10
         clear c10
         obtain ⟨ji12, hji12⟩ : ∃ j_ : Int, (wrap64 (x3_1 - 1)) = j_ := ⟨_, rfl⟩
         replace H : (if 0 ≤ (ji12) then (if (ji12) < (a0.size : Int) then (if (bt a0 x3_1) ≤ (bt a0 (ji12)) then (some false) else (spec_leText.l0 k1 a0 (wrap64 (x3_1 + 1)))) else (none)) else (none)) = some r := by first | (rw [hji12] at H; exact H) | (simp only [hji12] at H ⊢; exact H)
         have hji12w : (IntKind.i64.wrap (x3_1 - 1)) = ji12 := (i64_w _).trans hji12
         replace H := gd_ H; obtain ⟨c13, H⟩ := H
         have c13b0 : decide (0 ≤ (ji12)) = true := decide_eq_true c13
         clear c13
         replace H := gd_ H; obtain ⟨c14, H⟩ := H
         have c14b0 : decide ((ji12) < (a0.size : Int)) = true := decide_eq_true c14
         clear c14
         by_cases c16 : (bt a0 x3_1) ≤ (bt a0 (ji12))
         · rw [if_pos c16] at H
           have c16b0 := decide_eq_true c16
           clear c16
           obtain rfl := Option.some.inj H
           have p6 : 0 ≤ (x3_1 : Int) := of_decide_eq_true zS_
           have q6 : x3_1 < (a0.size : Int) := of_decide_eq_true zS_
           have hx6 := bt_at a0 x3_1
           replace p6 := eq_true p6
           replace q6 := eq_true q6
           have p8 : 0 ≤ (x3_1 : Int) := of_decide_eq_true zS_
           have q8 : x3_1 < (a0.size : Int) := of_decide_eq_true zS_
           have hx8 := bt_at a0 x3_1
           replace p8 := eq_true p8
           replace q8 := eq_true q8
           have p11 : 0 ≤ (x3_1 : Int) := of_decide_eq_true zS_
           have q11 : x3_1 < (a0.size : Int) := of_decide_eq_true zS_
           have hx11 := bt_at a0 x3_1
           replace p11 := eq_true p11
           replace q11 := eq_true q11
           have p15 : 0 ≤ ((ji12) : Int) := of_decide_eq_true zS_
           have q15 : (ji12) < (a0.size : Int) := of_decide_eq_true zS_
           have hx15 := bt_at a0 (ji12)
           replace p15 := eq_true p15
           replace q15 := eq_true q15
           go_wp2
           repeat (go_quiet (fail); try go_wp2)
           go_ret
           exact ⟨by first | rfl | (simp; done) | (simp only [← hji12] <;> (first | rfl | simp)) | (simp [*]; done), by repeat (first | exact Drawn0.refl _ | apply Drawn0.step)⟩
         rw [if_neg c16] at H
         have c16b0 := decide_eq_false c16
         clear c16
         have H' := Aside0.mk H
         clear H
         have p6 : 0 ≤ (x3_1 : Int) := of_decide_eq_true zS_
         have q6 : x3_1 < (a0.size : Int) := of_decide_eq_true zS_
         have hx6 := bt_at a0 x3_1
         replace p6 := eq_true p6
         replace q6 := eq_true q6
         have p8 : 0 ≤ (x3_1 : Int) := of_decide_eq_true zS_
         have q8 : x3_1 < (a0.size : Int) := of_decide_eq_true zS_
         have hx8 := bt_at a0 x3_1
         replace p8 := eq_true p8
         replace q8 := eq_true q8
         have p11 : 0 ≤ (x3_1 : Int) := of_decide_eq_true zS_
         have q11 : x3_1 < (a0.size : Int) := of_decide_eq_true zS_
         have hx11 := bt_at a0 x3_1
         replace p11 := eq_true p11
         replace q11 := eq_true q11
         have p15 : 0 ≤ ((ji12) : Int) := of_decide_eq_true zS_
         have q15 : (ji12) < (a0.size : Int) := of_decide_eq_true zS_
         have hx15 := bt_at a0 (ji12)
         replace p15 := eq_true p15
         replace q15 := eq_true q15
         go_wp2
         repeat (go_quiet (fail); try go_wp2)
         go_roundg k1
         case measure => have := HK1.out; omega
         case rel => exact ⟨(wrap64 (x3_1 + 1)), zV_, H', ⟨by have := HK1.out; omega⟩, by repeat (first | exact Drawn0.refl _ | apply Drawn0.step)⟩
       rw [if_neg c10] at H
       have c10b0 : decide (0 < x3_1) = false := decide_eq_false c10
       clear c10
       have H' := Aside0.mk H
       clear H
       have p6 : 0 ≤ (x3_1 : Int) := of_decide_eq_true zS_
       have q6 : x3_1 < (a0.size : Int) := of_decide_eq_true zS_
       have hx6 := bt_at a0 x3_1
       replace p6 := eq_true p6
       replace q6 := eq_true q6
       have p8 : 0 ≤ (x3_1 : Int) := of_decide_eq_true zS_
       have q8 : x3_1 < (a0.size : Int) := of_decide_eq_true zS_
       have hx8 := bt_at a0 x3_1
       replace p8 := eq_true p8
       replace q8 := eq_true q8
       go_wp2
       repeat (go_quiet (fail); try go_wp2)
       go_roundg k1
       case measure => have := HK1.out; omega
       case rel => exact ⟨(wrap64 (x3_1 + 1)), zV_, H', ⟨by have := HK1.out; omega⟩, by repeat (first | exact Drawn0.refl _ | apply Drawn0.step)⟩
     rw [if_neg c4] at H
     have c4b0 := decide_eq_false c4
     clear c4
     obtain rfl := Option.some.inj H
     go_wp2
     repeat (go_quiet (fail); try go_wp2)
     go_ret
     exact ⟨by first | rfl | (simp; done) | (simp [*]; done), by repeat (first | exact Drawn0.refl _ | apply Drawn0.step)⟩
 replace H := bf_ c3 H; obtain ⟨rfl, H⟩ := H
 obtain rfl := Option.some.inj H
 go_enter Tryz.func63, Tryz.ntmps63
 go_wp2_with (first | (go_at_call 55; (with_reducible refine (spec_l1In.calls (a0.size : Int) 1 10 false _ A2.out).mono ?_); rintro e w' ⟨rfl, ⟨nd, rfl⟩⟩; (try first | exact ⟨rfl, _, World.drewN_drewN _ _ _⟩ | exact ⟨rfl, _, Eq.trans (World.drewN_drewN _ _ _) (congrArg (World.drewN _) (Nat.add_assoc _ _ _))⟩)))
 repeat (go_quiet (fail); try go_wp2_with (first | (go_at_call 55; (with_reducible refine (spec_l1In.calls (a0.size : Int) 1 10 false _ A2.out).mono ?_); rintro e w' ⟨rfl, ⟨nd, rfl⟩⟩; (try first | exact ⟨rfl, _, World.drewN_drewN _ _ _⟩ | exact ⟨rfl, _, Eq.trans (World.drewN_drewN _ _ _) (congrArg (World.drewN _) (Nat.add_assoc _ _ _))⟩))))
 go_ret
 exact ⟨by first | rfl | (simp; done) | (simp [*]; done), by repeat (first | exact Drawn0.refl _ | apply Drawn0.step)⟩

/-! ### spec_leMultiple: function 64 -/
mutual
def spec_leMultiple.l0 : Nat → Int → ByteArray → List Bool → List ByteArray → List Int → Option (ByteArray × Bool)
 | 0, _, _, _, _, _ => none
 | k + 1, x0, x1, x6, x7, x8 => if (x7.length : Int) > 0 then (spec_leMultiple.l1 k x0 x1 x6 x8 ([] : List ByteArray) ([] : List Int) x7 (x7.length : Int) 0) else (some ((⟨#[]⟩ : ByteArray), false))
def spec_leMultiple.l1 : Nat → Int → ByteArray → List Bool → List Int → List ByteArray → List Int → List ByteArray → Int → Int → Option (ByteArray × Bool)
 | 0, _, _, _, _, _, _, _, _, _ => none
 | k + 1, x0, x1, x6, x8, x9, x10, x22, x23, x24 => if x24 < x23 then (if 0 ≤ x24 then (if x24 < (x22.length : Int) then (spec_leMultiple.l2 k x0 x1 x6 x8 x9 x10 x24 (rdOf ByteArray.empty x22 x24) 0 x22 x23 x24) else (none)) else (none)) else (spec_leMultiple.l0 k x0 x1 x6 x9 x10)
def spec_leMultiple.l2 : Nat → Int → ByteArray → List Bool → List Int → List ByteArray → List Int → Int → ByteArray → Int → List ByteArray → Int → Int → Option (ByteArray × Bool)
 | 0, _, _, _, _, _, _, _, _, _, _, _, _ => none
 | k + 1, x0, x1, x6, x8, x9, x10, x11, x12, x13, x22, x23, x24 => if x13 < (x1.size : Int) then (if x12.toList = ([] : List UInt8) then (if 0 ≤ x13 then (spec_leMultiple.j3 k x0 x1 x6 x8 x9 x10 x11 x12 x13 x22 x23 x24 ((bt x1 x13) == 48)) else (none)) else (spec_leMultiple.j3 k x0 x1 x6 x8 x9 x10 x11 x12 x13 x22 x23 x24 false)) else (spec_leMultiple.l1 k x0 x1 x6 x8 x9 x10 x22 x23 (wrap64 (x24 + 1)))
def spec_leMultiple.j3 : Nat → Int → ByteArray → List Bool → List Int → List ByteArray → List Int → Int → ByteArray → Int → List ByteArray → Int → Int → Bool → Option (ByteArray × Bool)
 | 0, _, _, _, _, _, _, _, _, _, _, _, _, _ => none
 | k + 1, x0, x1, x6, x8, x9, x10, x11, x12, x13, x22, x23, x24, x42 => if x42 = true then (spec_leMultiple.l2 k x0 x1 x6 x8 x9 x10 x11 x12 (wrap64 (x13 + 1)) x22 x23 x24) else (if 0 ≤ x11 then (if x11 < (x8.length : Int) then (if 0 ≤ x13 then (if x13 < (x1.size : Int) then (if x0 = 0 then (none) else (if (Int.tmod (wrap64 ((wrap64 (10 * (rd x8 x11))) + (((bt x1 x13) - 48) % 256))) x0) = 0 then (if x13 ≤ (wrap64 (x13 + 1)) then (if (wrap64 (x13 + 1)) ≤ (x1.size : Int) then (if x12.size + (x1.extract (x13 : Int).toNat ((wrap64 (x13 + 1)) : Int).toNat).size ≤ 9223372036854775807 then (some (x12 ++ (x1.extract (x13 : Int).toNat ((wrap64 (x13 + 1)) : Int).toNat), true)) else (none)) else (none)) else (none)) else (if 0 ≤ (Int.tmod (wrap64 ((wrap64 (10 * (rd x8 x11))) + (((bt x1 x13) - 48) % 256))) x0) then (if (Int.tmod (wrap64 ((wrap64 (10 * (rd x8 x11))) + (((bt x1 x13) - 48) % 256))) x0) < (x6.length : Int) then (if (rdOf false x6 (Int.tmod (wrap64 ((wrap64 (10 * (rd x8 x11))) + (((bt x1 x13) - 48) % 256))) x0) = true) then (spec_leMultiple.l2 k x0 x1 x6 x8 x9 x10 x11 x12 (wrap64 (x13 + 1)) x22 x23 x24) else (if x13 ≤ (wrap64 (x13 + 1)) then (if (wrap64 (x13 + 1)) ≤ (x1.size : Int) then (if x12.size + (x1.extract (x13 : Int).toNat ((wrap64 (x13 + 1)) : Int).toNat).size ≤ 9223372036854775807 then (if x9.length < 8796093022208 then (if x10.length < 17592186044416 then (spec_leMultiple.l2 k x0 x1 (x6.set ((Int.tmod (wrap64 ((wrap64 (10 * (rd x8 x11))) + (((bt x1 x13) - 48) % 256))) x0) : Int).toNat true) x8 (x9 ++ [x12 ++ (x1.extract (x13 : Int).toNat ((wrap64 (x13 + 1)) : Int).toNat)]) (x10 ++ [Int.tmod (wrap64 ((wrap64 (10 * (rd x8 x11))) + (((bt x1 x13) - 48) % 256))) x0]) x11 x12 (wrap64 (x13 + 1)) x22 x23 x24) else (none)) else (none)) else (none)) else (none)) else (none))) else (none)) else (none)))) else (none)) else (none)) else (none)) else (none))
end
def spec_leMultiple.f (k : Nat) (a0 : Int) (a1 : ByteArray) : Option (ByteArray × Bool) := if 0 ≤ a0 then (if (a0 : Int).toNat ≤ 281474976710656 then (spec_leMultiple.l0 k a0 a1 (List.replicate (a0 : Int).toNat false) (([(⟨#[]⟩ : ByteArray)] : List ByteArray)) (([0] : List Int))) else (none)) else (none)
theorem spec_leMultiple.mono_l : ∀ k, (∀ y0 y1 y2 y3 y4, LeO (spec_leMultiple.l0 k y0 y1 y2 y3 y4) (spec_leMultiple.l0 (k + 1) y0 y1 y2 y3 y4)) ∧ (∀ y0 y1 y2 y3 y4 y5 y6 y7 y8, LeO (spec_leMultiple.l1 k y0 y1 y2 y3 y4 y5 y6 y7 y8) (spec_leMultiple.l1 (k + 1) y0 y1 y2 y3 y4 y5 y6 y7 y8)) ∧ (∀ y0 y1 y2 y3 y4 y5 y6 y7 y8 y9 y10 y11, LeO (spec_leMultiple.l2 k y0 y1 y2 y3 y4 y5 y6 y7 y8 y9 y10 y11) (spec_leMultiple.l2 (k + 1) y0 y1 y2 y3 y4 y5 y6 y7 y8 y9 y10 y11)) ∧ (∀ y0 y1 y2 y3 y4 y5 y6 y7 y8 y9 y10 y11 y12, LeO (spec_leMultiple.j3 k y0 y1 y2 y3 y4 y5 y6 y7 y8 y9 y10 y11 y12) (spec_leMultiple.j3 (k + 1) y0 y1 y2 y3 y4 y5 y6 y7 y8 y9 y10 y11 y12))
 | 0 => ⟨fun _ _ _ _ _ r h => by simp [spec_leMultiple.l0] at h, fun _ _ _ _ _ _ _ _ _ r h => by simp [spec_leMultiple.l1] at h, fun _ _ _ _ _ _ _ _ _ _ _ _ r h => by simp [spec_leMultiple.l2] at h, fun _ _ _ _ _ _ _ _ _ _ _ _ _ r h => by simp [spec_leMultiple.j3] at h⟩
 | k + 1 => by
  obtain ⟨ih0, ih1, ih2, ih3⟩ := spec_leMultiple.mono_l k
  refine ⟨?_, ?_, ?_, ?_⟩
  · intro y0 y1 y2 y3 y4
    unfold spec_leMultiple.l0
    repeat' first
    | (with_reducible exact ih0 _ _ _ _ _)
    | (with_reducible exact ih1 _ _ _ _ _ _ _ _ _)
    | (with_reducible exact ih2 _ _ _ _ _ _ _ _ _ _ _ _)
    | (with_reducible exact ih3 _ _ _ _ _ _ _ _ _ _ _ _ _)
    | (with_reducible exact LeO.refl _)
    | (with_reducible exact LeO.none _)
    | (with_reducible refine LeO.ite ?_ ?_)
    | (with_reducible refine LeO.bind ?_ (fun _ => ?_))
    | exact LeO.none _
    | refine LeO.ite ?_ ?_
    | refine LeO.bind ?_ (fun _ => ?_)
  · intro y0 y1 y2 y3 y4 y5 y6 y7 y8
    unfold spec_leMultiple.l1
    repeat' first
    | (with_reducible exact ih0 _ _ _ _ _)
    | (with_reducible exact ih1 _ _ _ _ _ _ _ _ _)
    | (with_reducible exact ih2 _ _ _ _ _ _ _ _ _ _ _ _)
    | (with_reducible exact ih3 _ _ _ _ _ _ _ _ _ _ _ _ _)
    | (with_reducible exact LeO.refl _)
    | (with_reducible exact LeO.none _)
    | (with_reducible refine LeO.ite ?_ ?_)
    | (with_reducible refine LeO.bind ?_ (fun _ => ?_))
    | exact LeO.none _
    | refine LeO.ite ?_ ?_
    | refine LeO.bind ?_ (fun _ => ?_)
  · intro y0 y1 y2 y3 y4 y5 y6 y7 y8 y9 y10 y11
    unfold spec_leMultiple.l2
    repeat' first
    | (with_reducible exact ih0 _ _ _ _ _)
    | (with_reducible exact ih1 _ _ _ _ _ _ _ _ _)
    | (with_reducible exact ih2 _ _ _ _ _ _ _ _ _ _ _ _)
    | (with_reducible exact ih3 _ _ _ _ _ _ _ _ _ _ _ _ _)
    | (with_reducible exact LeO.refl _)
    | (with_reducible exact LeO.none _)
    | (with_reducible refine LeO.ite ?_ ?_)
    | (with_reducible refine LeO.bind ?_ (fun _ => ?_))
    | exact LeO.none _
    | refine LeO.ite ?_ ?_
    | refine LeO.bind ?_ (fun _ => ?_)
  intro y0 y1 y2 y3 y4 y5 y6 y7 y8 y9 y10 y11 y12
  unfold spec_leMultiple.j3
  repeat' first
  | (with_reducible exact ih0 _ _ _ _ _)
  | (with_reducible exact ih1 _ _ _ _ _ _ _ _ _)
  | (with_reducible exact ih2 _ _ _ _ _ _ _ _ _ _ _ _)
  | (with_reducible exact ih3 _ _ _ _ _ _ _ _ _ _ _ _ _)
  | (with_reducible exact LeO.refl _)
  | (with_reducible exact LeO.none _)
  | (with_reducible refine LeO.ite ?_ ?_)
  | (with_reducible refine LeO.bind ?_ (fun _ => ?_))
  | exact LeO.none _
  | refine LeO.ite ?_ ?_
  | refine LeO.bind ?_ (fun _ => ?_)
theorem spec_leMultiple.mono : ∀ a0 a1 k, LeO (spec_leMultiple.f k a0 a1) (spec_leMultiple.f (k + 1) a0 a1) := by
 intro a0 a1 k
 obtain ⟨ih0, ih1, ih2, ih3⟩ := spec_leMultiple.mono_l k
 unfold spec_leMultiple.f
 repeat' first
  | (with_reducible exact ih0 _ _ _ _ _)
  | (with_reducible exact ih1 _ _ _ _ _ _ _ _ _)
  | (with_reducible exact ih2 _ _ _ _ _ _ _ _ _ _ _ _)
  | (with_reducible exact ih3 _ _ _ _ _ _ _ _ _ _ _ _ _)
  | (with_reducible exact LeO.refl _)
  | (with_reducible exact LeO.none _)
  | (with_reducible refine LeO.ite ?_ ?_)
  | (with_reducible refine LeO.bind ?_ (fun _ => ?_))
  | exact LeO.none _
  | refine LeO.ite ?_ ?_
  | refine LeO.bind ?_ (fun _ => ?_)
set_option maxHeartbeats 8000000 in
set_option maxRecDepth 100000 in
theorem spec_leMultiple.calls (k : Nat) (a0 : Int) (a1 : ByteArray) (r1 : ByteArray) (r2 : Bool) (w : World) (h : spec_leMultiple.f k a0 a1 = some (r1, r2)) :
 Calls Tryz.prog 64 #[.int .i64 a0, .string a1] w fun e w' => e = .returned (.tuple #[.string r1, .bool r2]) ∧ Below w.heap.size w w' := by
 have HB := Aside0.mk (Below.refl w.heap.size w)
 unfold spec_leMultiple.f at h
 have H := h
 clear h
 replace H := gd_ H; obtain ⟨c3, H⟩ := H
 have c3b0 := eq_true c3
 have c3b1 : decide (0 ≤ a0) = true := decide_eq_true c3
 clear c3
 replace H := gd_ H; obtain ⟨c4, H⟩ := H
 have c4b0 := eq_true c4
 have c4b1 : decide ((a0 : Int).toNat ≤ 281474976710656) = true := decide_eq_true c4
 clear c4
 obtain ⟨y324, hy324⟩ : ∃ y_ : List Bool, y_ = (List.replicate (a0 : Int).toNat false) := ⟨_, rfl⟩
 replace H : (spec_leMultiple.l0 k a0 a1 y324 (([(⟨#[]⟩ : ByteArray)] : List ByteArray)) (([0] : List Int))) = some (r1, r2) := by first | (rw [hy324]; with_reducible exact H) | (have H2_ := (Option.bind_some _ _).symm.trans H; rw [hy324]; with_reducible exact H2_) | (have H2_ := (Option.bind_some _ _).symm.trans H; with_reducible exact H2_) | with_reducible exact H | (rw [hy324]; exact H) | exact H
 have Ny324 := Aside0.mk hy324
 clear hy324
 obtain ⟨y327, hy327⟩ : ∃ y_ : List ByteArray, y_ = (([(⟨#[]⟩ : ByteArray)] : List ByteArray)) := ⟨_, rfl⟩
 replace H : (spec_leMultiple.l0 k a0 a1 y324 y327 (([0] : List Int))) = some (r1, r2) := by first | (rw [hy327]; with_reducible exact H) | (have H2_ := (Option.bind_some _ _).symm.trans H; rw [hy327]; with_reducible exact H2_) | (have H2_ := (Option.bind_some _ _).symm.trans H; with_reducible exact H2_) | with_reducible exact H | (rw [hy327]; exact H) | exact H
 have Ny327 := Aside0.mk hy327
 clear hy327
 obtain ⟨y330, hy330⟩ : ∃ y_ : List Int, y_ = (([0] : List Int)) := ⟨_, rfl⟩
 replace H : (spec_leMultiple.l0 k a0 a1 y324 y327 y330) = some (r1, r2) := by first | (rw [hy330]; with_reducible exact H) | (have H2_ := (Option.bind_some _ _).symm.trans H; rw [hy330]; with_reducible exact H2_) | (have H2_ := (Option.bind_some _ _).symm.trans H; with_reducible exact H2_) | with_reducible exact H | (rw [hy330]; exact H) | exact H
 have Ny330 := Aside0.mk hy330
 clear hy330
 have H' := Aside0.mk H
 clear H
 go_enter Tryz.func64, Tryz.ntmps64
 go_wp2_with (first | ((with_reducible refine gate_dst (N := 16) rfl ?_); refine Kd.R_make Kd.bool _ 4 rfl (N := 16) rfl 71 _ _ rfl a0 rfl rfl Tryz.underlying71 (.bool false) 1 info4 rfl (by decide) (by omega) false (ok := fun _ => True) (okp := fun _ => True) rfl (fun _ hk => hk) trivial (of_decide_eq_true zS_) (Nat.le_trans (Nat.mul_le_mul_right _ (of_decide_eq_true zS_ : a0.toNat ≤ 281474976710656)) (by omega)) (Below.refl _ _) (Nat.le_refl _) ?_; intro v325 w5 ho6 hb hg_ hnew_; clear hg_ hnew_; (first | rw [← Ny324.out] at ho6 | (simp only [Int.reduceToNat] at ho6; rw [← Ny324.out] at ho6)); have HO326 := Aside0.mk (Kd.R_lower ho6 (below_size zB_)); replace HB := Aside0.mk (below_step zB_ hb); clear hb ho6) | ((with_reducible refine gate_dst (N := 17) rfl ?_); refine Kd.R_lit Kd.string _ 9 ?hg (N := 17) ?hd (xs := ([(⟨#[]⟩ : ByteArray)] : List ByteArray)) (inner := [.string (⟨#[]⟩ : ByteArray)]) (ok := fun _ => True) (okp := fun _ => True) ?hr ?hp (fun _ hk => hk) trivial (Below.refl _ _) (Nat.le_refl _) (by simp) ?_; (case hd => rfl); (case hg => rfl); (case hr => first | (go_simp; done) | (go_simp; rfl)); (case hp => exact (Reps.one (show Kd.M Kd.string _ _ _ (⟨#[]⟩ : ByteArray) [.string (⟨#[]⟩ : ByteArray)] from rfl) (Reps.none _ _))); intro v328 w7 ho8 hb hg_ hnew_; clear hg_ hnew_; (first | rw [← Ny327.out] at ho8 | (simp only [Int.reduceToNat] at ho8; rw [← Ny327.out] at ho8)); replace HO326 := Aside0.mk (Kd.R_below z9_7_ hb); have HO329 := Aside0.mk (Kd.R_lower ho8 (below_size zB_)); replace HB := Aside0.mk (below_step zB_ hb); clear hb ho8) | ((with_reducible refine gate_dst (N := 18) rfl ?_); refine Kd.R_lit (Kd.int .i64) _ 3 ?hg (N := 18) ?hd (xs := ([0] : List Int)) (inner := [.int .i64 0]) (ok := fun _ => True) (okp := fun _ => True) ?hr ?hp (fun _ hk => hk) trivial (Below.refl _ _) (Nat.le_refl _) (by simp) ?_; (case hd => rfl); (case hg => rfl); (case hr => first | (go_simp; done) | (go_simp; rfl)); (case hp => exact (Reps.one (show Kd.M (Kd.int .i64) _ _ _ 0 [.int .i64 0] from rfl) (Reps.none _ _))); intro v331 w9 ho10 hb hg_ hnew_; clear hg_ hnew_; (first | rw [← Ny330.out] at ho10 | (simp only [Int.reduceToNat] at ho10; rw [← Ny330.out] at ho10)); replace HO326 := Aside0.mk (Kd.R_below z9_7_ hb); replace HO329 := Aside0.mk (Kd.R_below (by (with_reducible repeat (first | apply Kd.R_alloc | apply Kd.R_drewN | apply Kd.R_drew)); exact HO329.out) hb); have HO332 := Aside0.mk (Kd.R_lower ho10 (below_size zB_)); replace HB := Aside0.mk (below_step zB_ hb); clear hb ho10))
 repeat (go_quiet (fail); try go_wp2_with (first | ((with_reducible refine gate_dst (N := 16) rfl ?_); refine Kd.R_make Kd.bool _ 4 rfl (N := 16) rfl 71 _ _ rfl a0 rfl rfl Tryz.underlying71 (.bool false) 1 info4 rfl (by decide) (by omega) false (ok := fun _ => True) (okp := fun _ => True) rfl (fun _ hk => hk) trivial (of_decide_eq_true zS_) (Nat.le_trans (Nat.mul_le_mul_right _ (of_decide_eq_true zS_ : a0.toNat ≤ 281474976710656)) (by omega)) (Below.refl _ _) (Nat.le_refl _) ?_; intro v325 w5 ho6 hb hg_ hnew_; clear hg_ hnew_; (first | rw [← Ny324.out] at ho6 | (simp only [Int.reduceToNat] at ho6; rw [← Ny324.out] at ho6)); have HO326 := Aside0.mk (Kd.R_lower ho6 (below_size zB_)); replace HB := Aside0.mk (below_step zB_ hb); clear hb ho6) | ((with_reducible refine gate_dst (N := 17) rfl ?_); refine Kd.R_lit Kd.string _ 9 ?hg (N := 17) ?hd (xs := ([(⟨#[]⟩ : ByteArray)] : List ByteArray)) (inner := [.string (⟨#[]⟩ : ByteArray)]) (ok := fun _ => True) (okp := fun _ => True) ?hr ?hp (fun _ hk => hk) trivial (Below.refl _ _) (Nat.le_refl _) (by simp) ?_; (case hd => rfl); (case hg => rfl); (case hr => first | (go_simp; done) | (go_simp; rfl)); (case hp => exact (Reps.one (show Kd.M Kd.string _ _ _ (⟨#[]⟩ : ByteArray) [.string (⟨#[]⟩ : ByteArray)] from rfl) (Reps.none _ _))); intro v328 w7 ho8 hb hg_ hnew_; clear hg_ hnew_; (first | rw [← Ny327.out] at ho8 | (simp only [Int.reduceToNat] at ho8; rw [← Ny327.out] at ho8)); replace HO326 := Aside0.mk (Kd.R_below z9_7_ hb); have HO329 := Aside0.mk (Kd.R_lower ho8 (below_size zB_)); replace HB := Aside0.mk (below_step zB_ hb); clear hb ho8) | ((with_reducible refine gate_dst (N := 18) rfl ?_); refine Kd.R_lit (Kd.int .i64) _ 3 ?hg (N := 18) ?hd (xs := ([0] : List Int)) (inner := [.int .i64 0]) (ok := fun _ => True) (okp := fun _ => True) ?hr ?hp (fun _ hk => hk) trivial (Below.refl _ _) (Nat.le_refl _) (by simp) ?_; (case hd => rfl); (case hg => rfl); (case hr => first | (go_simp; done) | (go_simp; rfl)); (case hp => exact (Reps.one (show Kd.M (Kd.int .i64) _ _ _ 0 [.int .i64 0] from rfl) (Reps.none _ _))); intro v331 w9 ho10 hb hg_ hnew_; clear hg_ hnew_; (first | rw [← Ny330.out] at ho10 | (simp only [Int.reduceToNat] at ho10; rw [← Ny330.out] at ho10)); replace HO326 := Aside0.mk (Kd.R_below z9_7_ hb); replace HO329 := Aside0.mk (Kd.R_below (by (with_reducible repeat (first | apply Kd.R_alloc | apply Kd.R_drewN | apply Kd.R_drew)); exact HO329.out) hb); have HO332 := Aside0.mk (Kd.R_lower ho10 (below_size zB_)); replace HB := Aside0.mk (below_step zB_ hb); clear hb ho10)))
 go_loopg [7, 8] k (fun kq v7 v8 w' => ∃ (x6_1 : List Bool) (x7_1 : List ByteArray) (x8_1 : List Int), Aside0 (spec_leMultiple.l0 kq a0 a1 x6_1 x7_1 x8_1 = some (r1, r2)) ∧ Aside0 (kq ≤ k) ∧ Aside0 (Kd.R Kd.bool 4 w' w.heap.size (fun _ => True) v325 x6_1) ∧ Aside0 (Kd.R Kd.string 9 w' w.heap.size (fun _ => True) v7 x7_1) ∧ Aside0 (Kd.R (Kd.int .i64) 3 w' w.heap.size (fun _ => True) v8 x8_1) ∧ Aside0 (Below w.heap.size w w'))
 case atStart => exact ⟨(y324), (y327), (y330), H', ⟨Nat.le_refl _⟩, ⟨by (with_reducible repeat (first | apply Kd.R_alloc | apply Kd.R_drewN | apply Kd.R_drew)); exact HO326.out⟩, ⟨by (with_reducible repeat (first | apply Kd.R_alloc | apply Kd.R_drewN | apply Kd.R_drew)); exact HO329.out⟩, ⟨by (with_reducible repeat (first | apply Kd.R_alloc | apply Kd.R_drewN | apply Kd.R_drew)); exact HO332.out⟩, ⟨zB_⟩⟩
 case round =>
  clear H'
  (try clear p2);(try clear c3);(try clear c3b0);(try clear c3b1);(try clear c4);(try clear c4b0);(try clear c4b1);(try clear c6)
  obtain ⟨x6_1, x7_1, x8_1, HA, HK1, HO_6, HO_7, HO_8, HB⟩ := hrel
  cases gk with
  | zero => exact absurd HA.out (by simp [spec_leMultiple.l0])
  | succ k1 =>
   have H := HA.out
   clear HA
   simp only [spec_leMultiple.l0] at H
   by_cases c11 : (x7_1.length : Int) > 0
   · rw [if_pos c11] at H
     have c11b0 : decide (0 < (x7_1.length : Int)) = true := decide_eq_true c11
     have c11b1 : decide (0 < x7_1.length) = true := decide_eq_true (by omega)
     clear c11
     have H' := Aside0.mk H
     clear H
     obtain ⟨Ao12, co12, eo12⟩ := Kd.R_slice HO_7.out
     subst eo12
     go_wp2
     repeat (go_quiet (fail); try go_wp2)
     go_loopg [9, 10, 24] k1 (fun kq v9 v10 v24 w' => ∃ (x6_2 : List Bool) (x9_2 : List ByteArray) (x10_2 : List Int) (x24_2 : Int), v24 = .int .i64 x24_2 ∧ Aside0 (spec_leMultiple.l1 kq a0 a1 x6_2 x8_1 x9_2 x10_2 x7_1 (x7_1.length : Int) x24_2 = some (r1, r2)) ∧ Aside0 (kq ≤ k1) ∧ Aside0 (Kd.R Kd.bool 4 w' w.heap.size (fun _ => True) v325 x6_2) ∧ Aside0 (Kd.R (Kd.int .i64) 3 w' w.heap.size (fun k_ => some k_ ≠ (v10 : Value).ownBlock) u8 x8_1) ∧ Aside0 (Kd.R Kd.string 9 w' w.heap.size (fun k_ => some k_ ≠ ((.slice Ao12 x7_1.length co12) : Value).ownBlock) v9 x9_2) ∧ Aside0 (Kd.R (Kd.int .i64) 3 w' w.heap.size (fun k_ => some k_ ≠ (u8 : Value).ownBlock) v10 x10_2) ∧ Aside0 (Kd.R Kd.string 9 w' w.heap.size (fun k_ => some k_ ≠ (v9 : Value).ownBlock) (.slice Ao12 x7_1.length co12) x7_1) ∧ Aside0 (Below w.heap.size w w'))
     case atStart => exact ⟨(x6_1), (([] : List ByteArray)), (([] : List Int)), (0), zV_, H', ⟨Nat.le_refl _⟩, ⟨by (with_reducible repeat (first | apply Kd.R_alloc | apply Kd.R_drewN | apply Kd.R_drew)); exact HO_6.out⟩, ⟨by (with_reducible repeat (first | apply Kd.R_alloc | apply Kd.R_drewN | apply Kd.R_drew)); exact Kd.R_mono HO_8.out (fun _ hk => (by simp [Value.ownBlock]))⟩, ⟨by first | exact Kd.R_nil _ _ _ _ _ | exact Kd.N_nil _ _ _ _ _ | exact Kd.V_nil _ _ _ _ _ | exact Kd.Q_nil _ _ _ _ _ | exact Kd.S_nil _ _ _ _ _⟩, ⟨by first | exact Kd.R_nil _ _ _ _ _ | exact Kd.N_nil _ _ _ _ _ | exact Kd.V_nil _ _ _ _ _ | exact Kd.Q_nil _ _ _ _ _ | exact Kd.S_nil _ _ _ _ _⟩, ⟨by (with_reducible repeat (first | apply Kd.R_alloc | apply Kd.R_drewN | apply Kd.R_drew)); exact Kd.R_mono HO_7.out (fun _ hk => (by simp [Value.ownBlock]))⟩, ⟨zB_⟩⟩
     case round =>
      clear H'
      (try clear c1);(try clear p2);(try clear c3);(try clear c3b0);(try clear c3b1);(try clear c4);(try clear c4b0);(try clear c4b1);(try clear c6);(try clear c11);(try clear c11b0);(try clear c11b1);(try clear p2)
      obtain ⟨x6_2, x9_2, x10_2, x24_2, rfl, HA, HK2, HO_6, HO_8, HO_9, HO_10, HO_22, HB⟩ := hrel
      cases gk with
      | zero => exact absurd HA.out (by simp [spec_leMultiple.l1])
      | succ k2 =>
       have H := HA.out
       clear HA
       simp only [spec_leMultiple.l1] at H
       by_cases c13 : x24_2 < (x7_1.length : Int)
       · rw [if_pos c13] at H
         have c13b0 := decide_eq_true c13
         clear c13
         replace H := gd_ H; obtain ⟨c14, H⟩ := H
         have c14b0 : decide (0 ≤ x24_2) = true := decide_eq_true c14
         clear c14
         replace H := gd_ H; obtain ⟨c15, H⟩ := H
         have c15b0 : decide (x24_2 < (x7_1.length : Int)) = true := decide_eq_true c15
         clear c15
         have H' := Aside0.mk H
         clear H
         have p333 : 0 ≤ (x24_2 : Int) := of_decide_eq_true zS_
         have q333 : x24_2 < (x7_1.length : Int) := of_decide_eq_true zS_
         obtain ⟨ad333, e333, hx333_0⟩ := Kd.at_string (Kd.R_reads' HO_22.out).2.2 x24_2 p333 q333
         cases e333
         replace p333 := eq_true p333
         replace q333 := eq_true q333
         go_wp2
         repeat (go_quiet (fail); try go_wp2)
         go_loopg [9, 10, 13] k2 (fun kq v9 v10 v13 w' => ∃ (x6_3 : List Bool) (x9_3 : List ByteArray) (x10_3 : List Int) (x13_3 : Int), v13 = .int .i64 x13_3 ∧ Aside0 (spec_leMultiple.l2 kq a0 a1 x6_3 x8_1 x9_3 x10_3 x24_2 (rdOf ByteArray.empty x7_1 x24_2) x13_3 x7_1 (x7_1.length : Int) x24_2 = some (r1, r2)) ∧ Aside0 (kq ≤ k2) ∧ Aside0 (Kd.R Kd.bool 4 w' w.heap.size (fun _ => True) v325 x6_3) ∧ Aside0 (Kd.R (Kd.int .i64) 3 w' w.heap.size (fun k_ => some k_ ≠ (v10 : Value).ownBlock) u8 x8_1) ∧ Aside0 (Kd.R Kd.string 9 w' w.heap.size (fun k_ => some k_ ≠ ((.slice (some ad333) x7_1.length co12) : Value).ownBlock) v9 x9_3) ∧ Aside0 (Kd.R (Kd.int .i64) 3 w' w.heap.size (fun k_ => some k_ ≠ (u8 : Value).ownBlock) v10 x10_3) ∧ Aside0 (Kd.R Kd.string 9 w' w.heap.size (fun k_ => some k_ ≠ (v9 : Value).ownBlock) (.slice (some ad333) x7_1.length co12) x7_1) ∧ Aside0 (Below w.heap.size w w'))
         case atStart => exact ⟨(x6_2), (x9_2), (x10_2), (0), zV_, H', ⟨Nat.le_refl _⟩, ⟨by (with_reducible repeat (first | apply Kd.R_alloc | apply Kd.R_drewN | apply Kd.R_drew)); exact HO_6.out⟩, ⟨by (with_reducible repeat (first | apply Kd.R_alloc | apply Kd.R_drewN | apply Kd.R_drew)); exact HO_8.out⟩, ⟨by (with_reducible repeat (first | apply Kd.R_alloc | apply Kd.R_drewN | apply Kd.R_drew)); exact HO_9.out⟩, ⟨by (with_reducible repeat (first | apply Kd.R_alloc | apply Kd.R_drewN | apply Kd.R_drew)); exact HO_10.out⟩, ⟨by (with_reducible repeat (first | apply Kd.R_alloc | apply Kd.R_drewN | apply Kd.R_drew)); exact HO_22.out⟩, ⟨zB_⟩⟩
         case round =>
          clear H'
          (try clear c1);(try clear p2);(try clear c3);(try clear c3b0);(try clear c3b1);(try clear p3);(try clear q3);(try clear hx3);(try clear c4);(try clear c4b0);(try clear c4b1);(try clear c6);(try clear c11);(try clear c11b0);(try clear c11b1);(try clear c13);(try clear c13b0);(try clear c14);(try clear c14b0);(try clear c15);(try clear c15b0);(try clear hx333_0);(try clear p2);(try clear p333);(try clear q333)
          obtain ⟨x6_3, x9_3, x10_3, x13_3, rfl, HA, HK3, HO_6, HO_8, HO_9, HO_10, HO_22, HB⟩ := hrel
          cases gk with
          | zero => exact absurd HA.out (by simp [spec_leMultiple.l2])
          | succ k3 =>
           have H := HA.out
           clear HA
           simp only [spec_leMultiple.l2] at H
           by_cases c16 : x13_3 < (a1.size : Int)
           · rw [if_pos c16] at H
             have c16b0 := decide_eq_true c16
             clear c16
             have HC17 := Aside0.mk H
             clear H
             go_upto_region 13 with (fail)
             repeat (go_quiet (fail); go_upto_region 13 with (fail))
             go_cut [42] (fun v42 wc => ∃ (kq : Nat) (x42_16 : Bool), v42 = .bool x42_16 ∧ Aside0 (spec_leMultiple.j3 kq a0 a1 x6_3 x8_1 x9_3 x10_3 x24_2 (rdOf ByteArray.empty x7_1 x24_2) x13_3 x7_1 (x7_1.length : Int) x24_2 x42_16 = some (r1, r2)) ∧ Aside0 (kq ≤ k3) ∧ Aside0 (Kd.R Kd.bool 4 wc w.heap.size (fun _ => True) v325 x6_3) ∧ Aside0 (Kd.R (Kd.int .i64) 3 wc w.heap.size (fun k_ => some k_ ≠ (u10 : Value).ownBlock) u8 x8_1) ∧ Aside0 (Kd.R Kd.string 9 wc w.heap.size (fun k_ => some k_ ≠ ((.slice (some ad333) x7_1.length co12) : Value).ownBlock) u9 x9_3) ∧ Aside0 (Kd.R (Kd.int .i64) 3 wc w.heap.size (fun k_ => some k_ ≠ (u8 : Value).ownBlock) u10 x10_3) ∧ Aside0 (Kd.R Kd.string 9 wc w.heap.size (fun k_ => some k_ ≠ (u9 : Value).ownBlock) (.slice (some ad333) x7_1.length co12) x7_1) ∧ Aside0 (Below w.heap.size w wc))
             case first =>
              have H := HC17.out
              clear HC17
              by_cases c18 : (rdOf ByteArray.empty x7_1 x24_2).toList = ([] : List UInt8)
              · rw [if_pos c18] at H
                have c18b0 : ((rdOf ByteArray.empty x7_1 x24_2).toList == ([] : List UInt8)) = true := beq_iff_eq.mpr c18
                have c18b1 : ((rdOf ByteArray.empty x7_1 x24_2).toList != ([] : List UInt8)) = false := bne_eq_false_iff_eq.mpr c18
                clear c18
                (first | rw [c18b0] | (simp only [i64_w, i32_w]; rw [c18b0]) | skip)
                replace H := gd_ H; obtain ⟨c19, H⟩ := H
                have c19b0 : decide (0 ≤ x13_3) = true := decide_eq_true c19
                clear c19
                have H' := Aside0.mk H
                clear H
                have p20 : 0 ≤ (x13_3 : Int) := of_decide_eq_true zS_
                have q20 : x13_3 < (a1.size : Int) := of_decide_eq_true zS_
                have hx20 := bt_at a1 x13_3
                replace p20 := eq_true p20
                replace q20 := eq_true q20
                go_wp2
                repeat (go_quiet (fail); try go_wp2)
                go_meet
                case rel => exact ⟨_, (((bt a1 x13_3) == 48)), zV_, H', ⟨by have := HK1.out; have := HK2.out; have := HK3.out; first | omega | exact Nat.le_refl _⟩, ⟨by (with_reducible repeat (first | apply Kd.R_alloc | apply Kd.R_drewN | apply Kd.R_drew)); exact HO_6.out⟩, ⟨by (with_reducible repeat (first | apply Kd.R_alloc | apply Kd.R_drewN | apply Kd.R_drew)); exact HO_8.out⟩, ⟨by (with_reducible repeat (first | apply Kd.R_alloc | apply Kd.R_drewN | apply Kd.R_drew)); exact HO_9.out⟩, ⟨by (with_reducible repeat (first | apply Kd.R_alloc | apply Kd.R_drewN | apply Kd.R_drew)); exact HO_10.out⟩, ⟨by (with_reducible repeat (first | apply Kd.R_alloc | apply Kd.R_drewN | apply Kd.R_drew)); exact HO_22.out⟩, ⟨zB_⟩⟩
              rw [if_neg c18] at H
              have c18b0 : ((rdOf ByteArray.empty x7_1 x24_2).toList == ([] : List UInt8)) = false := beq_eq_false_iff_ne.mpr c18
              have c18b1 : ((rdOf ByteArray.empty x7_1 x24_2).toList != ([] : List UInt8)) = true := bne_iff_ne.mpr c18
              (first | rw [c18b0] | (simp only [i64_w, i32_w]; rw [c18b0]) | skip)
              have H' := Aside0.mk H
              clear H
              go_wp2
              repeat (go_quiet (fail); try go_wp2)
              go_meet
              case rel => exact ⟨_, (false), zV_, H', ⟨by have := HK1.out; have := HK2.out; have := HK3.out; first | omega | exact Nat.le_refl _⟩, ⟨by (with_reducible repeat (first | apply Kd.R_alloc | apply Kd.R_drewN | apply Kd.R_drew)); exact HO_6.out⟩, ⟨by (with_reducible repeat (first | apply Kd.R_alloc | apply Kd.R_drewN | apply Kd.R_drew)); exact HO_8.out⟩, ⟨by (with_reducible repeat (first | apply Kd.R_alloc | apply Kd.R_drewN | apply Kd.R_drew)); exact HO_9.out⟩, ⟨by (with_reducible repeat (first | apply Kd.R_alloc | apply Kd.R_drewN | apply Kd.R_drew)); exact HO_10.out⟩, ⟨by (with_reducible repeat (first | apply Kd.R_alloc | apply Kd.R_drewN | apply Kd.R_drew)); exact HO_22.out⟩, ⟨zB_⟩⟩
             case rest =>
              clear HC17
              (try clear c1);(try clear p2);(try clear q2);(try clear hx2);(try clear c3);(try clear c3b0);(try clear c3b1);(try clear p3);(try clear q3);(try clear hx3);(try clear c4);(try clear c4b0);(try clear c4b1);(try clear c6);(try clear c11);(try clear c11b0);(try clear c11b1);(try clear c13);(try clear c13b0);(try clear c14);(try clear c14b0);(try clear c15);(try clear c15b0);(try clear c16);(try clear c16b0);(try clear c18);(try clear c18b0);(try clear c18b1);(try clear c19);(try clear c19b0);(try clear p20);(try clear q20);(try clear hx20);(try clear hx333_0);(try clear p2);(try clear p20);(try clear p3);(try clear p333);(try clear q20);(try clear q3);(try clear q333)
              obtain ⟨kq, x42_16, rfl, HA, HJ16, HO_6, HO_8, HO_9, HO_10, HO_22, HB⟩ := hcut
              cases kq with
              | zero => exact absurd HA.out (by simp [spec_leMultiple.j3])
              | succ kj16 =>
               have H := HA.out
               clear HA
               simp only [spec_leMultiple.j3] at H
               by_cases c21 : x42_16 = true
               · subst c21
                 rw [if_pos rfl] at H
                 have H' := Aside0.mk H
                 clear H
                 go_wp2
                 repeat (go_quiet (fail); try go_wp2)
                 go_roundg kj16
                 case measure => have := HK1.out; have := HK2.out; have := HK3.out; have := HJ16.out; omega
                 case rel => exact ⟨(x6_3), (x9_3), (x10_3), (wrap64 (x13_3 + 1)), zV_, H', ⟨by have := HK1.out; have := HK2.out; have := HK3.out; have := HJ16.out; omega⟩, ⟨by (with_reducible repeat (first | apply Kd.R_alloc | apply Kd.R_drewN | apply Kd.R_drew)); exact HO_6.out⟩, ⟨by (with_reducible repeat (first | apply Kd.R_alloc | apply Kd.R_drewN | apply Kd.R_drew)); exact HO_8.out⟩, ⟨by (with_reducible repeat (first | apply Kd.R_alloc | apply Kd.R_drewN | apply Kd.R_drew)); exact HO_9.out⟩, ⟨by (with_reducible repeat (first | apply Kd.R_alloc | apply Kd.R_drewN | apply Kd.R_drew)); exact HO_10.out⟩, ⟨by (with_reducible repeat (first | apply Kd.R_alloc | apply Kd.R_drewN | apply Kd.R_drew)); exact HO_22.out⟩, ⟨zB_⟩⟩
               replace H := bf_ c21 H; obtain ⟨rfl, H⟩ := H
               replace H := gd_ H; obtain ⟨c22, H⟩ := H
               have c22b0 : decide (0 ≤ x24_2) = true := decide_eq_true c22
               clear c22
               replace H := gd_ H; obtain ⟨c23, H⟩ := H
               have c23b0 : decide (x24_2 < (x8_1.length : Int)) = true := decide_eq_true c23
               clear c23
               replace H := gd_ H; obtain ⟨c24, H⟩ := H
               have c24b0 : decide (0 ≤ x13_3) = true := decide_eq_true c24
               clear c24
               replace H := gd_ H; obtain ⟨c25, H⟩ := H
               have c25b0 : decide (x13_3 < (a1.size : Int)) = true := decide_eq_true c25
               clear c25
               by_cases c27 : a0 = 0
               · exact none_ (if_pos c27) H
               rw [if_neg c27] at H
               have c27b0 : (a0 == 0) = false := beq_eq_false_iff_ne.mpr c27
               have c27b1 : (a0 != 0) = true := bne_iff_ne.mpr c27
               by_cases c28 : (Int.tmod (wrap64 ((wrap64 (10 * (rd x8_1 x24_2))) + (((bt a1 x13_3) - 48) % 256))) a0) = 0
               · rw [if_pos c28] at H
                 have c28b0 : ((Int.tmod (wrap64 ((wrap64 (10 * (rd x8_1 x24_2))) + (((bt a1 x13_3) - 48) % 256))) a0) == 0) = true := beq_iff_eq.mpr c28
                 have c28b1 : ((Int.tmod (wrap64 ((wrap64 (10 * (rd x8_1 x24_2))) + (((bt a1 x13_3) - 48) % 256))) a0) != 0) = false := bne_eq_false_iff_eq.mpr c28
                 clear c28
                 have c29b0 := eq_true (of_decide_eq_true zS_ : 0 ≤ x13_3)
                 replace H := gd_ H; obtain ⟨c30, H⟩ := H
                 have c30b0 := eq_true c30
                 have c30b1 : decide (x13_3 ≤ (wrap64 (x13_3 + 1))) = true := decide_eq_true c30
                 replace H := gd_ H; obtain ⟨c31, H⟩ := H
                 have c31b0 := eq_true c31
                 have c31b1 : decide ((wrap64 (x13_3 + 1)) ≤ (a1.size : Int)) = true := decide_eq_true c31
                 replace H := gd_ H; obtain ⟨c32, H⟩ := H
                 have c32b0 := eq_true c32
                 have c32b1 : decide ((rdOf ByteArray.empty x7_1 x24_2).size + (a1.extract (x13_3 : Int).toNat ((wrap64 (x13_3 + 1)) : Int).toNat).size ≤ 9223372036854775807) = true := decide_eq_true c32
                 try have c32b2 : (9223372036854775807 < (rdOf ByteArray.empty x7_1 x24_2).size + (a1.extract (x13_3 : Int).toNat ((wrap64 (x13_3 + 1)) : Int).toNat).size) = False := eq_false (Nat.not_lt.2 c32)
                 simp only [Option.some.injEq, Prod.mk.injEq] at H
                 obtain ⟨rfl, rfl⟩ := H
                 obtain ⟨Ao33, co33, eo33⟩ := Kd.R_slice HO_8.out
                 subst eo33
                 have p334 : 0 ≤ (x24_2 : Int) := of_decide_eq_true zS_
                 have q334 : x24_2 < (x8_1.length : Int) := of_decide_eq_true zS_
                 obtain ⟨ad334, e334, hx334_0⟩ := Kd.at_int (Kd.R_reads' HO_8.out).2.2 x24_2 p334 q334
                 cases e334
                 replace p334 := eq_true p334
                 replace q334 := eq_true q334
                 have p26 : 0 ≤ (x13_3 : Int) := of_decide_eq_true zS_
                 have q26 : x13_3 < (a1.size : Int) := of_decide_eq_true zS_
                 have hx26 := bt_at a1 x13_3
                 replace p26 := eq_true p26
                 replace q26 := eq_true q26
                 go_wp2
                 repeat (go_quiet (fail); try go_wp2)
                 go_ret2
                 exact ⟨zR_, zB_⟩
               rw [if_neg c28] at H
               have c28b0 : ((Int.tmod (wrap64 ((wrap64 (10 * (rd x8_1 x24_2))) + (((bt a1 x13_3) - 48) % 256))) a0) == 0) = false := beq_eq_false_iff_ne.mpr c28
               have c28b1 : ((Int.tmod (wrap64 ((wrap64 (10 * (rd x8_1 x24_2))) + (((bt a1 x13_3) - 48) % 256))) a0) != 0) = true := bne_iff_ne.mpr c28
               obtain ⟨ji34, hji34⟩ : ∃ j_ : Int, (Int.tmod (wrap64 ((wrap64 (10 * (rd x8_1 x24_2))) + (((bt a1 x13_3) - 48) % 256))) a0) = j_ := ⟨_, rfl⟩
               replace H : (if 0 ≤ (ji34) then (if (ji34) < (x6_3.length : Int) then (if (rdOf false x6_3 (ji34) = true) then (spec_leMultiple.l2 kj16 a0 a1 x6_3 x8_1 x9_3 x10_3 x24_2 (rdOf ByteArray.empty x7_1 x24_2) (wrap64 (x13_3 + 1)) x7_1 (x7_1.length : Int) x24_2) else (if x13_3 ≤ (wrap64 (x13_3 + 1)) then (if (wrap64 (x13_3 + 1)) ≤ (a1.size : Int) then (if (rdOf ByteArray.empty x7_1 x24_2).size + (a1.extract (x13_3 : Int).toNat ((wrap64 (x13_3 + 1)) : Int).toNat).size ≤ 9223372036854775807 then (if x9_3.length < 8796093022208 then (if x10_3.length < 17592186044416 then (spec_leMultiple.l2 kj16 a0 a1 (x6_3.set ((ji34) : Int).toNat true) x8_1 (x9_3 ++ [(rdOf ByteArray.empty x7_1 x24_2) ++ (a1.extract (x13_3 : Int).toNat ((wrap64 (x13_3 + 1)) : Int).toNat)]) (x10_3 ++ [ji34]) x24_2 (rdOf ByteArray.empty x7_1 x24_2) (wrap64 (x13_3 + 1)) x7_1 (x7_1.length : Int) x24_2) else (none)) else (none)) else (none)) else (none)) else (none))) else (none)) else (none)) = some (r1, r2) := by first | (rw [hji34] at H; exact H) | (simp only [hji34] at H ⊢; exact H)
               (try rw [hji34] at c28b0)
               (try rw [hji34] at c28b1)
               replace H := gd_ H; obtain ⟨c35, H⟩ := H
               have c35b0 : decide (0 ≤ (ji34)) = true := decide_eq_true c35
               clear c35
               replace H := gd_ H; obtain ⟨c36, H⟩ := H
               have c36b0 : decide ((ji34) < (x6_3.length : Int)) = true := decide_eq_true c36
               clear c36
               obtain ⟨bq37, hbq37⟩ : ∃ b_ : Bool, b_ = (rdOf false x6_3 (ji34)) := ⟨_, rfl⟩
               replace H : (if (bq37 = true) then (spec_leMultiple.l2 kj16 a0 a1 x6_3 x8_1 x9_3 x10_3 x24_2 (rdOf ByteArray.empty x7_1 x24_2) (wrap64 (x13_3 + 1)) x7_1 (x7_1.length : Int) x24_2) else (if x13_3 ≤ (wrap64 (x13_3 + 1)) then (if (wrap64 (x13_3 + 1)) ≤ (a1.size : Int) then (if (rdOf ByteArray.empty x7_1 x24_2).size + (a1.extract (x13_3 : Int).toNat ((wrap64 (x13_3 + 1)) : Int).toNat).size ≤ 9223372036854775807 then (if x9_3.length < 8796093022208 then (if x10_3.length < 17592186044416 then (spec_leMultiple.l2 kj16 a0 a1 (x6_3.set ((ji34) : Int).toNat true) x8_1 (x9_3 ++ [(rdOf ByteArray.empty x7_1 x24_2) ++ (a1.extract (x13_3 : Int).toNat ((wrap64 (x13_3 + 1)) : Int).toNat)]) (x10_3 ++ [ji34]) x24_2 (rdOf ByteArray.empty x7_1 x24_2) (wrap64 (x13_3 + 1)) x7_1 (x7_1.length : Int) x24_2) else (none)) else (none)) else (none)) else (none)) else (none))) = some (r1, r2) := by rw [← hbq37] at H; exact H
               have Nbq37 := Aside0.mk hbq37
               clear hbq37
               by_cases c38 : (bq37 = true)
               · subst c38
                 rw [if_pos rfl] at H
                 have H' := Aside0.mk H
                 clear H
                 obtain ⟨Ao39, co39, eo39⟩ := Kd.R_slice HO_8.out
                 subst eo39
                 have p334 : 0 ≤ (x24_2 : Int) := of_decide_eq_true zS_
                 have q334 : x24_2 < (x8_1.length : Int) := of_decide_eq_true zS_
                 obtain ⟨ad334, e334, hx334_0⟩ := Kd.at_int (Kd.R_reads' HO_8.out).2.2 x24_2 p334 q334
                 cases e334
                 replace p334 := eq_true p334
                 replace q334 := eq_true q334
                 have p26 : 0 ≤ (x13_3 : Int) := of_decide_eq_true zS_
                 have q26 : x13_3 < (a1.size : Int) := of_decide_eq_true zS_
                 have hx26 := bt_at a1 x13_3
                 replace p26 := eq_true p26
                 replace q26 := eq_true q26
                 obtain ⟨Ao40, co40, eo40⟩ := Kd.R_slice HO_6.out
                 subst eo40
                 have p335 : 0 ≤ ((ji34) : Int) := of_decide_eq_true zS_
                 have q335 : (ji34) < (x6_3.length : Int) := of_decide_eq_true zS_
                 obtain ⟨ad335, e335, hx335_0⟩ := Kd.at_bool (Kd.R_reads' HO_6.out).2.2 (ji34) p335 q335
                 (try rw [← Nbq37.out] at hx335_0)
                 cases e335
                 replace p335 := eq_true p335
                 replace q335 := eq_true q335
                 go_wp2
                 repeat (go_quiet (fail); try go_wp2)
                 go_roundg kj16
                 case measure => have := HK1.out; have := HK2.out; have := HK3.out; have := HJ16.out; omega
                 case rel => exact ⟨(x6_3), (x9_3), (x10_3), (wrap64 (x13_3 + 1)), zV_, H', ⟨by have := HK1.out; have := HK2.out; have := HK3.out; have := HJ16.out; omega⟩, ⟨by (with_reducible repeat (first | apply Kd.R_alloc | apply Kd.R_drewN | apply Kd.R_drew)); exact HO_6.out⟩, ⟨by (with_reducible repeat (first | apply Kd.R_alloc | apply Kd.R_drewN | apply Kd.R_drew)); exact HO_8.out⟩, ⟨by (with_reducible repeat (first | apply Kd.R_alloc | apply Kd.R_drewN | apply Kd.R_drew)); exact HO_9.out⟩, ⟨by (with_reducible repeat (first | apply Kd.R_alloc | apply Kd.R_drewN | apply Kd.R_drew)); exact HO_10.out⟩, ⟨by (with_reducible repeat (first | apply Kd.R_alloc | apply Kd.R_drewN | apply Kd.R_drew)); exact HO_22.out⟩, ⟨zB_⟩⟩
               replace H := bf_ c38 H; obtain ⟨rfl, H⟩ := H
               obtain ⟨y336, hy336⟩ : ∃ y_ : List Bool, y_ = (x6_3.set ((ji34) : Int).toNat true) := ⟨_, rfl⟩
               replace H : (if x13_3 ≤ (wrap64 (x13_3 + 1)) then (if (wrap64 (x13_3 + 1)) ≤ (a1.size : Int) then (if (rdOf ByteArray.empty x7_1 x24_2).size + (a1.extract (x13_3 : Int).toNat ((wrap64 (x13_3 + 1)) : Int).toNat).size ≤ 9223372036854775807 then (if x9_3.length < 8796093022208 then (if x10_3.length < 17592186044416 then (spec_leMultiple.l2 kj16 a0 a1 y336 x8_1 (x9_3 ++ [(rdOf ByteArray.empty x7_1 x24_2) ++ (a1.extract (x13_3 : Int).toNat ((wrap64 (x13_3 + 1)) : Int).toNat)]) (x10_3 ++ [ji34]) x24_2 (rdOf ByteArray.empty x7_1 x24_2) (wrap64 (x13_3 + 1)) x7_1 (x7_1.length : Int) x24_2) else (none)) else (none)) else (none)) else (none)) else (none)) = some (r1, r2) := by first | (rw [hy336]; with_reducible exact H) | (have H2_ := (Option.bind_some _ _).symm.trans H; rw [hy336]; with_reducible exact H2_) | (have H2_ := (Option.bind_some _ _).symm.trans H; with_reducible exact H2_) | with_reducible exact H | (rw [hy336]; exact H) | exact H
               have Ny336 := Aside0.mk hy336
               clear hy336
               have c42b0 := eq_true (of_decide_eq_true zS_ : 0 ≤ x13_3)
               replace H := gd_ H; obtain ⟨c43, H⟩ := H
               have c43b0 := eq_true c43
               have c43b1 : decide (x13_3 ≤ (wrap64 (x13_3 + 1))) = true := decide_eq_true c43
               replace H := gd_ H; obtain ⟨c44, H⟩ := H
               have c44b0 := eq_true c44
               have c44b1 : decide ((wrap64 (x13_3 + 1)) ≤ (a1.size : Int)) = true := decide_eq_true c44
               replace H := gd_ H; obtain ⟨c45, H⟩ := H
               have c45b0 := eq_true c45
               have c45b1 : decide ((rdOf ByteArray.empty x7_1 x24_2).size + (a1.extract (x13_3 : Int).toNat ((wrap64 (x13_3 + 1)) : Int).toNat).size ≤ 9223372036854775807) = true := decide_eq_true c45
               try have c45b2 : (9223372036854775807 < (rdOf ByteArray.empty x7_1 x24_2).size + (a1.extract (x13_3 : Int).toNat ((wrap64 (x13_3 + 1)) : Int).toNat).size) = False := eq_false (Nat.not_lt.2 c45)
               replace H := gd_ H; obtain ⟨c46, H⟩ := H
               have LMc46 := Aside0.mk c46
               clear c46
               obtain ⟨y337, hy337⟩ : ∃ y_ : List ByteArray, y_ = (x9_3 ++ [(rdOf ByteArray.empty x7_1 x24_2) ++ (a1.extract (x13_3 : Int).toNat ((wrap64 (x13_3 + 1)) : Int).toNat)]) := ⟨_, rfl⟩
               replace H : (if x10_3.length < 17592186044416 then (spec_leMultiple.l2 kj16 a0 a1 y336 x8_1 y337 (x10_3 ++ [ji34]) x24_2 (rdOf ByteArray.empty x7_1 x24_2) (wrap64 (x13_3 + 1)) x7_1 (x7_1.length : Int) x24_2) else (none)) = some (r1, r2) := by first | (rw [hy337]; with_reducible exact H) | (have H2_ := (Option.bind_some _ _).symm.trans H; rw [hy337]; with_reducible exact H2_) | (have H2_ := (Option.bind_some _ _).symm.trans H; with_reducible exact H2_) | with_reducible exact H | (rw [hy337]; exact H) | exact H
               have Ny337 := Aside0.mk hy337
               clear hy337
               replace H := gd_ H; obtain ⟨c47, H⟩ := H
               have LMc47 := Aside0.mk c47
               clear c47
               obtain ⟨y340, hy340⟩ : ∃ y_ : List Int, y_ = (x10_3 ++ [ji34]) := ⟨_, rfl⟩
               replace H : (spec_leMultiple.l2 kj16 a0 a1 y336 x8_1 y337 y340 x24_2 (rdOf ByteArray.empty x7_1 x24_2) (wrap64 (x13_3 + 1)) x7_1 (x7_1.length : Int) x24_2) = some (r1, r2) := by first | (rw [hy340]; with_reducible exact H) | (have H2_ := (Option.bind_some _ _).symm.trans H; rw [hy340]; with_reducible exact H2_) | (have H2_ := (Option.bind_some _ _).symm.trans H; with_reducible exact H2_) | with_reducible exact H | (rw [hy340]; exact H) | exact H
               have Ny340 := Aside0.mk hy340
               clear hy340
               have H' := Aside0.mk H
               clear H
               obtain ⟨Ao48, co48, eo48⟩ := Kd.R_slice HO_8.out
               subst eo48
               have p334 : 0 ≤ (x24_2 : Int) := of_decide_eq_true zS_
               have q334 : x24_2 < (x8_1.length : Int) := of_decide_eq_true zS_
               obtain ⟨ad334, e334, hx334_0⟩ := Kd.at_int (Kd.R_reads' HO_8.out).2.2 x24_2 p334 q334
               cases e334
               replace p334 := eq_true p334
               replace q334 := eq_true q334
               have p26 : 0 ≤ (x13_3 : Int) := of_decide_eq_true zS_
               have q26 : x13_3 < (a1.size : Int) := of_decide_eq_true zS_
               have hx26 := bt_at a1 x13_3
               replace p26 := eq_true p26
               replace q26 := eq_true q26
               obtain ⟨Ao49, co49, eo49⟩ := Kd.R_slice HO_6.out
               subst eo49
               have p335 : 0 ≤ ((ji34) : Int) := of_decide_eq_true zS_
               have q335 : (ji34) < (x6_3.length : Int) := of_decide_eq_true zS_
               obtain ⟨ad335, e335, hx335_0⟩ := Kd.at_bool (Kd.R_reads' HO_6.out).2.2 (ji34) p335 q335
               (try rw [← Nbq37.out] at hx335_0)
               cases e335
               replace p335 := eq_true p335
               replace q335 := eq_true q335
               have p41 : 0 ≤ ((ji34) : Int) := of_decide_eq_true zS_
               have q41 : ((ji34) : Int) < ((x6_3.length : Int) : Int) := of_decide_eq_true zS_
               obtain ⟨go41, co41, eo41, gb41, gl41, cl41, HG41⟩ := Kd.R_form HO_6.out (by omega)
               (first | cases eo41 | (injection eo41 with ea_ en_ ec_; (first | subst ea_ | (injection ea_ with ea_; subst ea_)); subst ec_; clear en_))
               have GB41 := Aside0.mk gb41
               have GG41 := Aside0.mk HG41
               clear gb41 gl41 HG41
               (first | simp only [add_plain] at hx335_0 | skip)
               obtain ⟨hx41_0, hf41_0⟩ := Kd.R_celln false HO_6.out ((ji34) : Int) p41 q41
               replace p41 := eq_true p41
               replace q41 := eq_true q41
               have HP50 := Kd.R_putg HO_6.out ((ji34) : Int) true
               go_wp2_with (first | ((with_reducible refine gate_store (t := 4) (p := 72) rfl ?_); (try (rw [drewN_self wc]; generalize hq_ : World.drewN wc _ = wc; replace HO_6 := Aside0.mk (Kd.R_at hq_ HO_6.out); replace HO_8 := Aside0.mk (Kd.R_at hq_ HO_8.out); replace HO_9 := Aside0.mk (Kd.R_at hq_ HO_9.out); replace HO_10 := Aside0.mk (Kd.R_at hq_ HO_10.out); replace HO_22 := Aside0.mk (Kd.R_at hq_ HO_22.out); replace HB := Aside0.mk (below_at hq_ HB.out); clear hq_; (try (have HP50 := Kd.R_putg HO_6.out ((ji34) : Int) true)); (try (obtain ⟨hx41_0, hf41_0⟩ := Kd.R_celln false HO_6.out ((ji34) : Int) (of_eq_true p41) (of_eq_true q41))))); refine store_event (t := 4) (p := 72) (v := ?vo_w51) (w1 := (wc.setCell ⟨go41, ((ji34) : Int).toNat, none⟩ (.bool true))) ?hg ?ho ?hn ?hr ?_; (case ho => rfl); (case hg => rfl); (case hn => rfl); (case hr => first | (go_simp; done) | (go_simp; rfl)); intro w51 hw; have hg : wc.grownBy w51 (some go41) := (by rw [hw]; exact HP50.2); have hp_ : Kd.R Kd.bool 4 w51 w.heap.size (fun _ => True) (.slice (some ⟨go41, 0, none⟩) x6_3.length co49) y336 := (by rw [hw, Ny336.out]; exact HP50.1); clear HP50; have n0_ := Aside0.mk (hp_); have n1_ := Aside0.mk (Kd.R_over' (v := (.slice (some ⟨go41, 0, none⟩) x6_3.length co49)) z9_5_ (Kd.R_typed HO_6.out) (by decide) hg); have n2_ := Aside0.mk (Kd.R_over' (v := (.slice (some ⟨go41, 0, none⟩) x6_3.length co49)) z9_3_ (Kd.R_typed HO_6.out) (by decide) hg); have n3_ := Aside0.mk (Kd.R_over' (v := (.slice (some ⟨go41, 0, none⟩) x6_3.length co49)) z9_2_ (Kd.R_typed HO_6.out) (by decide) hg); have n4_ := Aside0.mk (Kd.R_over' (v := (.slice (some ⟨go41, 0, none⟩) x6_3.length co49)) z9_4_ (Kd.R_typed HO_6.out) (by decide) hg); have n5_ := Aside0.mk ((by rw [hw]; exact below_set (HB.out) GB41.out : Below w.heap.size w w51)); clear HO_6; clear HO_8; clear HO_9; clear HO_10; clear HO_22; clear HB; have HO_6 := n0_; have HO_8 := n1_; have HO_9 := n2_; have HO_10 := n3_; have HO_22 := n4_; have HB := n5_; clear n0_ n1_ n2_ n3_ n4_ n5_; clear hg hw hp_) | ((with_reducible refine gate_builtin (b := .append) (xs := #[.tmp 73, .tmp 81]) rfl ?_); at_builtin; refine Kd.R_append Kd.string (w0 := w) w.heap.size rfl (.tmp 73) (.tmp 81) 61 9 (.string ⟨#[]⟩) 16 rfl Tryz.underlying61 info9 rfl (by decide) (by omega) u9 x9_3 ((rdOf ByteArray.empty x7_1 x24_2) ++ (a1.extract (x13_3 : Int).toNat ((wrap64 (x13_3 + 1)) : Int).toNat)) [.string ((rdOf ByteArray.empty x7_1 x24_2) ++ (a1.extract (x13_3 : Int).toNat ((wrap64 (x13_3 + 1)) : Int).toNat))] (fun k_ => some k_ ≠ (.slice (some ad333) x7_1.length co12 : Value).ownBlock) (fun _ => False) rfl rfl ?aP (fun _ hk => hk.elim) ?aF ?aO ?aB ?aS ?aL ?_; (case aP => exact rfl); (case aB => exact zB_); (case aF => exact (fun k_ hk => Kd.fresh' (Kd.R_lt z9_4_) k_ hk)); (case aO => exact z9_3_); (case aS => exact (below_size zB_)); (case aL => have := LMc46.out; omega); intro v338 w52 ho hb hg hat; rw [← Ny337.out] at ho; replace HO_6 := Aside0.mk (Kd.R_over' z9_8_ (Kd.R_typed z9_3_) (by decide) hg); replace HO_8 := Aside0.mk (Kd.R_over' z9_5_ (Kd.R_typed z9_3_) (by decide) hg); replace HO_10 := Aside0.mk (Kd.R_over' z9_2_ (Kd.R_typed z9_3_) (by decide) hg); replace HO_22 := Aside0.mk (Kd.R_after (ok := (fun _ => True)) (by (with_reducible repeat (first | apply Kd.R_alloc | apply Kd.R_drewN | apply Kd.R_drew)); exact Kd.R_mono HO_22.out (fun _ hk => ⟨trivial, hk⟩)) hg hat); replace HB := Aside0.mk (hb); have HO339 := Aside0.mk (ho); clear HO_9; clear ho hb hg hat) | ((with_reducible refine gate_builtin (b := .append) (xs := #[.tmp 83, .tmp 85]) rfl ?_); at_builtin; refine Kd.R_append (Kd.int .i64) (w0 := w) w.heap.size rfl (.tmp 83) (.tmp 85) 41 3 (.int .i64 0) 8 rfl Tryz.underlying41 info3 rfl (by decide) (by omega) u10 x10_3 ji34 [.int .i64 ji34] (fun k_ => some k_ ≠ (.slice (some ad334) x8_1.length co48 : Value).ownBlock) (fun _ => False) rfl rfl ?aP (fun _ hk => hk.elim) ?aF ?aO ?aB ?aS ?aL ?_; (case aP => exact rfl); (case aB => exact zB_); (case aF => exact (fun k_ hk => Kd.fresh' (Kd.R_lt z9_5_) k_ hk)); (case aO => exact z9_2_); (case aS => exact (below_size zB_)); (case aL => have := LMc47.out; omega); intro v341 w53 ho hb hg hat; rw [← Ny340.out] at ho; replace HO_6 := Aside0.mk (Kd.R_over' z9_8_ (Kd.R_typed z9_2_) (by decide) hg); replace HO_8 := Aside0.mk (Kd.R_after (ok := (fun _ => True)) (by (with_reducible repeat (first | apply Kd.R_alloc | apply Kd.R_drewN | apply Kd.R_drew)); exact Kd.R_mono HO_8.out (fun _ hk => ⟨trivial, hk⟩)) hg hat); replace HO_22 := Aside0.mk (Kd.R_over' z9_4_ (Kd.R_typed z9_2_) (by decide) hg); replace HO339 := Aside0.mk (Kd.R_over' (by (with_reducible repeat (first | apply Kd.R_alloc | apply Kd.R_drewN | apply Kd.R_drew)); exact HO339.out) (Kd.R_typed z9_2_) (by decide) hg); replace HB := Aside0.mk (hb); have HO342 := Aside0.mk (ho); clear HO_10; clear ho hb hg hat))
               repeat (go_quiet (fail); try go_wp2_with (first | ((with_reducible refine gate_store (t := 4) (p := 72) rfl ?_); (try (rw [drewN_self wc]; generalize hq_ : World.drewN wc _ = wc; replace HO_6 := Aside0.mk (Kd.R_at hq_ HO_6.out); replace HO_8 := Aside0.mk (Kd.R_at hq_ HO_8.out); replace HO_9 := Aside0.mk (Kd.R_at hq_ HO_9.out); replace HO_10 := Aside0.mk (Kd.R_at hq_ HO_10.out); replace HO_22 := Aside0.mk (Kd.R_at hq_ HO_22.out); replace HB := Aside0.mk (below_at hq_ HB.out); clear hq_; (try (have HP50 := Kd.R_putg HO_6.out ((ji34) : Int) true)); (try (obtain ⟨hx41_0, hf41_0⟩ := Kd.R_celln false HO_6.out ((ji34) : Int) (of_eq_true p41) (of_eq_true q41))))); refine store_event (t := 4) (p := 72) (v := ?vo_w51) (w1 := (wc.setCell ⟨go41, ((ji34) : Int).toNat, none⟩ (.bool true))) ?hg ?ho ?hn ?hr ?_; (case ho => rfl); (case hg => rfl); (case hn => rfl); (case hr => first | (go_simp; done) | (go_simp; rfl)); intro w51 hw; have hg : wc.grownBy w51 (some go41) := (by rw [hw]; exact HP50.2); have hp_ : Kd.R Kd.bool 4 w51 w.heap.size (fun _ => True) (.slice (some ⟨go41, 0, none⟩) x6_3.length co49) y336 := (by rw [hw, Ny336.out]; exact HP50.1); clear HP50; have n0_ := Aside0.mk (hp_); have n1_ := Aside0.mk (Kd.R_over' (v := (.slice (some ⟨go41, 0, none⟩) x6_3.length co49)) z9_5_ (Kd.R_typed HO_6.out) (by decide) hg); have n2_ := Aside0.mk (Kd.R_over' (v := (.slice (some ⟨go41, 0, none⟩) x6_3.length co49)) z9_3_ (Kd.R_typed HO_6.out) (by decide) hg); have n3_ := Aside0.mk (Kd.R_over' (v := (.slice (some ⟨go41, 0, none⟩) x6_3.length co49)) z9_2_ (Kd.R_typed HO_6.out) (by decide) hg); have n4_ := Aside0.mk (Kd.R_over' (v := (.slice (some ⟨go41, 0, none⟩) x6_3.length co49)) z9_4_ (Kd.R_typed HO_6.out) (by decide) hg); have n5_ := Aside0.mk ((by rw [hw]; exact below_set (HB.out) GB41.out : Below w.heap.size w w51)); clear HO_6; clear HO_8; clear HO_9; clear HO_10; clear HO_22; clear HB; have HO_6 := n0_; have HO_8 := n1_; have HO_9 := n2_; have HO_10 := n3_; have HO_22 := n4_; have HB := n5_; clear n0_ n1_ n2_ n3_ n4_ n5_; clear hg hw hp_) | ((with_reducible refine gate_builtin (b := .append) (xs := #[.tmp 73, .tmp 81]) rfl ?_); at_builtin; refine Kd.R_append Kd.string (w0 := w) w.heap.size rfl (.tmp 73) (.tmp 81) 61 9 (.string ⟨#[]⟩) 16 rfl Tryz.underlying61 info9 rfl (by decide) (by omega) u9 x9_3 ((rdOf ByteArray.empty x7_1 x24_2) ++ (a1.extract (x13_3 : Int).toNat ((wrap64 (x13_3 + 1)) : Int).toNat)) [.string ((rdOf ByteArray.empty x7_1 x24_2) ++ (a1.extract (x13_3 : Int).toNat ((wrap64 (x13_3 + 1)) : Int).toNat))] (fun k_ => some k_ ≠ (.slice (some ad333) x7_1.length co12 : Value).ownBlock) (fun _ => False) rfl rfl ?aP (fun _ hk => hk.elim) ?aF ?aO ?aB ?aS ?aL ?_; (case aP => exact rfl); (case aB => exact zB_); (case aF => exact (fun k_ hk => Kd.fresh' (Kd.R_lt z9_4_) k_ hk)); (case aO => exact z9_3_); (case aS => exact (below_size zB_)); (case aL => have := LMc46.out; omega); intro v338 w52 ho hb hg hat; rw [← Ny337.out] at ho; replace HO_6 := Aside0.mk (Kd.R_over' z9_8_ (Kd.R_typed z9_3_) (by decide) hg); replace HO_8 := Aside0.mk (Kd.R_over' z9_5_ (Kd.R_typed z9_3_) (by decide) hg); replace HO_10 := Aside0.mk (Kd.R_over' z9_2_ (Kd.R_typed z9_3_) (by decide) hg); replace HO_22 := Aside0.mk (Kd.R_after (ok := (fun _ => True)) (by (with_reducible repeat (first | apply Kd.R_alloc | apply Kd.R_drewN | apply Kd.R_drew)); exact Kd.R_mono HO_22.out (fun _ hk => ⟨trivial, hk⟩)) hg hat); replace HB := Aside0.mk (hb); have HO339 := Aside0.mk (ho); clear HO_9; clear ho hb hg hat) | ((with_reducible refine gate_builtin (b := .append) (xs := #[.tmp 83, .tmp 85]) rfl ?_); at_builtin; refine Kd.R_append (Kd.int .i64) (w0 := w) w.heap.size rfl (.tmp 83) (.tmp 85) 41 3 (.int .i64 0) 8 rfl Tryz.underlying41 info3 rfl (by decide) (by omega) u10 x10_3 ji34 [.int .i64 ji34] (fun k_ => some k_ ≠ (.slice (some ad334) x8_1.length co48 : Value).ownBlock) (fun _ => False) rfl rfl ?aP (fun _ hk => hk.elim) ?aF ?aO ?aB ?aS ?aL ?_; (case aP => exact rfl); (case aB => exact zB_); (case aF => exact (fun k_ hk => Kd.fresh' (Kd.R_lt z9_5_) k_ hk)); (case aO => exact z9_2_); (case aS => exact (below_size zB_)); (case aL => have := LMc47.out; omega); intro v341 w53 ho hb hg hat; rw [← Ny340.out] at ho; replace HO_6 := Aside0.mk (Kd.R_over' z9_8_ (Kd.R_typed z9_2_) (by decide) hg); replace HO_8 := Aside0.mk (Kd.R_after (ok := (fun _ => True)) (by (with_reducible repeat (first | apply Kd.R_alloc | apply Kd.R_drewN | apply Kd.R_drew)); exact Kd.R_mono HO_8.out (fun _ hk => ⟨trivial, hk⟩)) hg hat); replace HO_22 := Aside0.mk (Kd.R_over' z9_4_ (Kd.R_typed z9_2_) (by decide) hg); replace HO339 := Aside0.mk (Kd.R_over' (by (with_reducible repeat (first | apply Kd.R_alloc | apply Kd.R_drewN | apply Kd.R_drew)); exact HO339.out) (Kd.R_typed z9_2_) (by decide) hg); replace HB := Aside0.mk (hb); have HO342 := Aside0.mk (ho); clear HO_10; clear ho hb hg hat)))
               go_roundg kj16
               case measure => have := HK1.out; have := HK2.out; have := HK3.out; have := HJ16.out; omega
               case rel => exact ⟨(y336), (y337), (y340), (wrap64 (x13_3 + 1)), zV_, H', ⟨by have := HK1.out; have := HK2.out; have := HK3.out; have := HJ16.out; omega⟩, ⟨by (with_reducible repeat (first | apply Kd.R_alloc | apply Kd.R_drewN | apply Kd.R_drew)); exact HO_6.out⟩, ⟨by (with_reducible repeat (first | apply Kd.R_alloc | apply Kd.R_drewN | apply Kd.R_drew)); exact Kd.R_mono HO_8.out (fun _ hk => hk.2)⟩, ⟨by (with_reducible repeat (first | apply Kd.R_alloc | apply Kd.R_drewN | apply Kd.R_drew)); exact HO339.out⟩, ⟨by (with_reducible repeat (first | apply Kd.R_alloc | apply Kd.R_drewN | apply Kd.R_drew)); exact HO342.out⟩, ⟨by (with_reducible repeat (first | apply Kd.R_alloc | apply Kd.R_drewN | apply Kd.R_drew)); exact Kd.R_mono HO_22.out (fun _ hk => hk.2)⟩, ⟨zB_⟩⟩
           rw [if_neg c16] at H
           have c16b0 := decide_eq_false c16
           clear c16
           have H' := Aside0.mk H
           clear H
           go_wp2
           repeat (go_quiet (fail); try go_wp2)
           go_roundg k3
           case measure => have := HK1.out; have := HK2.out; have := HK3.out; omega
           case rel => exact ⟨(x6_3), (x9_3), (x10_3), (wrap64 (x24_2 + 1)), zV_, H', ⟨by have := HK1.out; have := HK2.out; have := HK3.out; omega⟩, ⟨by (with_reducible repeat (first | apply Kd.R_alloc | apply Kd.R_drewN | apply Kd.R_drew)); exact HO_6.out⟩, ⟨by (with_reducible repeat (first | apply Kd.R_alloc | apply Kd.R_drewN | apply Kd.R_drew)); exact HO_8.out⟩, ⟨by (with_reducible repeat (first | apply Kd.R_alloc | apply Kd.R_drewN | apply Kd.R_drew)); exact HO_9.out⟩, ⟨by (with_reducible repeat (first | apply Kd.R_alloc | apply Kd.R_drewN | apply Kd.R_drew)); exact HO_10.out⟩, ⟨by (with_reducible repeat (first | apply Kd.R_alloc | apply Kd.R_drewN | apply Kd.R_drew)); exact HO_22.out⟩, ⟨zB_⟩⟩
       rw [if_neg c13] at H
       have c13b0 := decide_eq_false c13
       clear c13
       have H' := Aside0.mk H
       clear H
       go_wp2
       repeat (go_quiet (fail); try go_wp2)
       go_roundg k2
       case measure => have := HK1.out; have := HK2.out; omega
       case rel => exact ⟨(x6_2), (x9_2), (x10_2), H', ⟨by have := HK1.out; have := HK2.out; omega⟩, ⟨by (with_reducible repeat (first | apply Kd.R_alloc | apply Kd.R_drewN | apply Kd.R_drew)); exact HO_6.out⟩, ⟨by (with_reducible repeat (first | apply Kd.R_alloc | apply Kd.R_drewN | apply Kd.R_drew)); exact Kd.R_mono HO_9.out (fun _ hk => trivial)⟩, ⟨by (with_reducible repeat (first | apply Kd.R_alloc | apply Kd.R_drewN | apply Kd.R_drew)); exact Kd.R_mono HO_10.out (fun _ hk => trivial)⟩, ⟨zB_⟩⟩
   rw [if_neg c11] at H
   have c11b0 : decide (0 < (x7_1.length : Int)) = false := decide_eq_false c11
   have c11b1 : decide (0 < x7_1.length) = false := decide_eq_false (by omega)
   clear c11
   simp only [Option.some.injEq, Prod.mk.injEq] at H
   obtain ⟨rfl, rfl⟩ := H
   obtain ⟨Ao54, co54, eo54⟩ := Kd.R_slice HO_7.out
   subst eo54
   go_wp2
   repeat (go_quiet (fail); try go_wp2)
   go_ret2
   exact ⟨zR_, zB_⟩

end Go.Proofs.YtjnfaidngaobmaaGreatDoor.PFnLeastOfDigits

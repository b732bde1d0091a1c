-- Laid by this session's program gprint.py over the kit's print.
import Derived.Test.YtogonichanoeaaaPFnExactLeastBothx0
namespace Go.Proofs.Ytogonichanoeaaa.PFnExactLeastBoth
open Go.RowKit Go.Proofs.YtogonichanoeaaaW.PrintWords Go.Proofs.YtogonichanoeaaaW.PrintLast Go.Proofs.YtogonichanoeaaaW.PrintMore
attribute [local go_sem] max2_int min2_int max_two min_two max_three min_three max_four min_four   -- for this text's walks alone
set_option linter.unusedVariables false
set_option linter.unusedSimpArgs false
theorem z1_0_ {p : Prop} (h : p := by (try simp only [List.map_toArray, List.map_cons, List.map_nil]); first | done | rfl | (simp only [List.length_drop, List.length_take]; rfl)) : p := h
theorem z1_1_ {p : Prop} (h : p := by first | rfl | (simp; done) | (simp [*]; done)) : p := h
theorem z1_2_ {p : Prop} (h : p := by repeat (first | (with_reducible first | exact HB.out | apply below_alloc | apply pw_below_drewN | apply below_drew1) | exact HB.out)) : p := h

/-! ### spec_l1In: function 7 -/
def spec_l1In.f (a0 : Int) (a1 : Int) (a2 : Int) : Option (Bool) := if a0 ≥ a1 then (some (decide (a0 ≤ a2))) else (some false)
set_option maxHeartbeats 8000000 in
set_option maxRecDepth 100000 in
theorem spec_l1In.calls (a0 : Int) (a1 : Int) (a2 : Int) (r : Bool) (w : World) (h : spec_l1In.f a0 a1 a2 = some r) :
 Calls Try.prog 7 #[.int .i64 a0, .int .i64 a1, .int .i64 a2] w fun e w' => e = .returned (.bool r) ∧ Drawn0 w w' := by
 have H : (if a0 ≥ a1 then (some (decide (a0 ≤ a2))) else (some false)) = some r := h
 clear h
 by_cases c4 : a0 ≥ a1
 · rw [if_pos c4] at H
   have c4b0 : decide (a1 ≤ a0) = true := decide_eq_true c4
   clear c4
   obtain rfl := Option.some.inj H
   go_enter Try.func7, Try.ntmps7
   go_wp2
   go_ret
   exact ⟨by first | rfl | (simp; done) | (simp [*]; done), by repeat (first | exact Drawn0.refl _ | apply Drawn0.step)⟩
 rw [if_neg c4] at H
 have c4b0 : decide (a1 ≤ a0) = false := decide_eq_false c4
 clear c4
 obtain rfl := Option.some.inj H
 go_enter Try.func7, Try.ntmps7
 go_wp2
 go_ret
 exact ⟨by first | rfl | (simp; done) | (simp [*]; done), by repeat (first | exact Drawn0.refl _ | apply Drawn0.step)⟩

/-! ### spec_leSum: function 6 -/
def spec_leSum.f (a0 : Int) : Option (Bool) := (spec_l1In.f a0 0 108).bind fun t101 => (some t101)
set_option maxHeartbeats 8000000 in
set_option maxRecDepth 100000 in
theorem spec_leSum.calls (a0 : Int) (r : Bool) (w : World) (h : spec_leSum.f a0 = some r) :
 Calls Try.prog 6 #[.int .i64 a0] w fun e w' => e = .returned (.bool r) ∧ Drawn0 w w' := by
 have H : ((spec_l1In.f a0 0 108).bind fun t101 => (some t101)) = some r := h
 clear h
 replace H := Option.bind_eq_some_iff.mp H
 obtain ⟨t101, A20, H⟩ := H
 have A2 := Aside0.mk A20
 clear A20
 obtain rfl := Option.some.inj H
 go_enter Try.func6, Try.ntmps6
 go_wp2_with (first | ((with_reducible refine gate_callee (f := 7) rfl ?_); refine goesL_ (some 4) rfl rfl Try.func7 (by kernel_rfl) rfl #[.int .i64 a0, .int .i64 0, .int .i64 108] rfl z1_0_ ?_; (with_reducible refine (spec_l1In.calls a0 0 108 t101 _ A2.out).mono ?_); rintro e w' ⟨rfl, ⟨nd, rfl⟩⟩; refine ⟨_, rfl, ?_⟩))
 go_ret
 exact ⟨by first | rfl | (simp; done) | (simp [*]; done), by repeat (first | exact Drawn0.refl _ | apply Drawn0.step)⟩

/-! ### spec_leBoth: function 8 -/
mutual
def spec_leBoth.l0 : Nat → Int → Int → Int → Int → Int → Option (Int × Bool)
 | 0, _, _, _, _, _ => none
 | k + 1, x0, x1, x3, x4, x12 => if x12 < 10 then (spec_leBoth.j1 k x0 x1 x3 x4 x12 (decide ((wrap64 (x12 * x1)) ≤ x3))) else (spec_leBoth.j1 k x0 x1 x3 x4 x12 false)
def spec_leBoth.j1 : Nat → Int → Int → Int → Int → Int → Bool → Option (Int × Bool)
 | 0, _, _, _, _, _, _ => none
 | k + 1, x0, x1, x3, x4, x12, x33 => if x33 = true then (if x12 = 0 then (none) else (if (Int.tmod x4 x12) = 0 then ((spec_leBoth.f k (wrap64 ((wrap64 (10 * x0)) + x12)) (wrap64 (x1 - 1)) x12 (wrap64 (x3 - x12)) (wrap64 (Int.tdiv x4 x12))).bind fun bt102 => (if bt102.2 = true then (some (bt102.1, true)) else (spec_leBoth.l0 k x0 x1 x3 x4 (wrap64 (x12 + 1))))) else (spec_leBoth.l0 k x0 x1 x3 x4 (wrap64 (x12 + 1))))) else (some (0, false))
def spec_leBoth.f : Nat → Int → Int → Int → Int → Int → Option (Int × Bool)
 | 0, _, _, _, _, _ => none
 | k + 1, a0, a1, a2, a3, a4 => if a1 = 0 then (if a3 = 0 then (some (a0, (a4 == 1))) else (some (a0, false))) else (spec_leBoth.l0 k a0 a1 a3 a4 a2)
end
theorem spec_leBoth.mono_l : ∀ k, (∀ y0 y1 y2 y3 y4, LeO (spec_leBoth.f k y0 y1 y2 y3 y4) (spec_leBoth.f (k + 1) y0 y1 y2 y3 y4)) ∧ (∀ y0 y1 y2 y3 y4, LeO (spec_leBoth.l0 k y0 y1 y2 y3 y4) (spec_leBoth.l0 (k + 1) y0 y1 y2 y3 y4)) ∧ (∀ y0 y1 y2 y3 y4 y5, LeO (spec_leBoth.j1 k y0 y1 y2 y3 y4 y5) (spec_leBoth.j1 (k + 1) y0 y1 y2 y3 y4 y5))
 | 0 => ⟨fun _ _ _ _ _ r h => by simp [spec_leBoth.f] at h, fun _ _ _ _ _ r h => by simp [spec_leBoth.l0] at h, fun _ _ _ _ _ _ r h => by simp [spec_leBoth.j1] at h⟩
 | k + 1 => by
  obtain ⟨ih0, ih1, ih2⟩ := spec_leBoth.mono_l k
  refine ⟨?_, ?_, ?_⟩
  · intro y0 y1 y2 y3 y4
    unfold spec_leBoth.f
    repeat' first
    | (with_reducible exact ih0 _ _ _ _ _)
    | (with_reducible exact ih1 _ _ _ _ _)
    | (with_reducible exact ih2 _ _ _ _ _ _)
    | (with_reducible exact LeO.refl _)
    | (with_reducible exact LeO.none _)
    | (with_reducible refine LeO.ite ?_ ?_)
    | (with_reducible refine LeO.bind ?_ (fun _ => ?_))
    | exact ih0 _ _ _ _ _
    | exact ih1 _ _ _ _ _
    | exact ih2 _ _ _ _ _ _
    | exact LeO.none _
    | refine LeO.ite ?_ ?_
    | refine LeO.bind ?_ (fun _ => ?_)
  · intro y0 y1 y2 y3 y4
    unfold spec_leBoth.l0
    repeat' first
    | (with_reducible exact ih0 _ _ _ _ _)
    | (with_reducible exact ih1 _ _ _ _ _)
    | (with_reducible exact ih2 _ _ _ _ _ _)
    | (with_reducible exact LeO.refl _)
    | (with_reducible exact LeO.none _)
    | (with_reducible refine LeO.ite ?_ ?_)
    | (with_reducible refine LeO.bind ?_ (fun _ => ?_))
    | exact ih0 _ _ _ _ _
    | exact ih1 _ _ _ _ _
    | exact ih2 _ _ _ _ _ _
    | exact LeO.none _
    | refine LeO.ite ?_ ?_
    | refine LeO.bind ?_ (fun _ => ?_)
  intro y0 y1 y2 y3 y4 y5
  unfold spec_leBoth.j1
  repeat' first
  | (with_reducible exact ih0 _ _ _ _ _)
  | (with_reducible exact ih1 _ _ _ _ _)
  | (with_reducible exact ih2 _ _ _ _ _ _)
  | (with_reducible exact LeO.refl _)
  | (with_reducible exact LeO.none _)
  | (with_reducible refine LeO.ite ?_ ?_)
  | (with_reducible refine LeO.bind ?_ (fun _ => ?_))
  | exact ih0 _ _ _ _ _
  | exact ih1 _ _ _ _ _
  | exact ih2 _ _ _ _ _ _
  | exact LeO.none _
  | refine LeO.ite ?_ ?_
  | refine LeO.bind ?_ (fun _ => ?_)
theorem spec_leBoth.mono : ∀ a0 a1 a2 a3 a4 k, LeO (spec_leBoth.f k a0 a1 a2 a3 a4) (spec_leBoth.f (k + 1) a0 a1 a2 a3 a4) := by
 intro a0 a1 a2 a3 a4 k
 obtain ⟨ih0, ih1, ih2⟩ := spec_leBoth.mono_l k
 exact ih0 a0 a1 a2 a3 a4
set_option maxHeartbeats 8000000 in
set_option maxRecDepth 100000 in
theorem spec_leBoth.calls (k : Nat) : ∀ (a0 : Int) (a1 : Int) (a2 : Int) (a3 : Int) (a4 : Int) (r1 : Int) (r2 : Bool) (w : World) (h : spec_leBoth.f k a0 a1 a2 a3 a4 = some (r1, r2)),
 Calls Try.prog 8 #[.int .i64 a0, .int .i64 a1, .int .i64 a2, .int .i64 a3, .int .i64 a4] w fun e w' => e = .returned (.tuple #[.int .i64 r1, .bool r2]) ∧ Drawn0 w w' := by
 induction k using Nat.strongRecOn with
 | _ k ih =>
 intro a0 a1 a2 a3 a4 r1 r2 w h
 cases k with
 | zero => exact absurd h (by simp [spec_leBoth.f])
 | succ k =>
 simp only [spec_leBoth.f] at h
 have H : (if a1 = 0 then (if a3 = 0 then (some (a0, (a4 == 1))) else (some (a0, false))) else (spec_leBoth.l0 k a0 a1 a3 a4 a2)) = some (r1, r2) := h
 clear h
 by_cases c6 : a1 = 0
 · rw [if_pos c6] at H
   have c6b0 : (a1 == 0) = true := beq_iff_eq.mpr c6
   have c6b1 : (a1 != 0) = false := bne_eq_false_iff_eq.mpr c6
   clear c6
   by_cases c7 : a3 = 0
   · rw [if_pos c7] at H
     have c7b0 : (a3 == 0) = true := beq_iff_eq.mpr c7
     have c7b1 : (a3 != 0) = false := bne_eq_false_iff_eq.mpr c7
     clear c7
     simp only [Option.some.injEq, Prod.mk.injEq] at H
     obtain ⟨rfl, rfl⟩ := H
     go_enter Try.func8, Try.ntmps8
     go_wp2
     go_ret2
     exact ⟨by first | rfl | (simp; done) | (simp [*]; done), by repeat (first | exact Drawn0.refl _ | apply Drawn0.step)⟩
   rw [if_neg c7] at H
   have c7b0 : (a3 == 0) = false := beq_eq_false_iff_ne.mpr c7
   have c7b1 : (a3 != 0) = true := bne_iff_ne.mpr c7
   simp only [Option.some.injEq, Prod.mk.injEq] at H
   obtain ⟨rfl, rfl⟩ := H
   go_enter Try.func8, Try.ntmps8
   go_wp2
   go_ret2
   exact ⟨by first | rfl | (simp; done) | (simp [*]; done), by repeat (first | exact Drawn0.refl _ | apply Drawn0.step)⟩
 rw [if_neg c6] at H
 have c6b0 : (a1 == 0) = false := beq_eq_false_iff_ne.mpr c6
 have c6b1 : (a1 != 0) = true := bne_iff_ne.mpr c6
 have H' := Aside0.mk H
 clear H
 go_enter Try.func8, Try.ntmps8
 go_wp2
 go_loopg [12] k (fun kq v12 w' => ∃ (x12_1 : Int), v12 = .int .i64 x12_1 ∧ Aside0 (spec_leBoth.l0 kq a0 a1 a3 a4 x12_1 = some (r1, r2)) ∧ Aside0 (kq ≤ k) ∧ Drawn0 w w')
 case atStart => exact ⟨(a2), z1_1_, H', ⟨Nat.le_refl _⟩, by repeat (first | exact Drawn0.refl _ | apply Drawn0.step)⟩
 case round =>
  clear H'
  (try clear p2);(try clear c6);(try clear c6b0);(try clear c6b1);(try clear c7);(try clear c7b0);(try clear c7b1)
  obtain ⟨x12_1, rfl, HA, HK1, ⟨m1, rfl⟩⟩ := hrel
  cases gk with
  | zero => exact absurd HA.out (by simp [spec_leBoth.l0])
  | succ k1 =>
   have H := HA.out
   clear HA
   simp only [spec_leBoth.l0] at H
   have HC8 := Aside0.mk H
   clear H
   go_upto_region 4 with (fail)
   go_cut [33] (fun v33 wc => ∃ (kq : Nat) (x33_7 : Bool), v33 = .bool x33_7 ∧ Aside0 (spec_leBoth.j1 kq a0 a1 a3 a4 x12_1 x33_7 = some (r1, r2)) ∧ Aside0 (kq ≤ k1) ∧ Drawn0 w wc)
   case first =>
    have H := HC8.out
    clear HC8
    by_cases c9 : x12_1 < 10
    · rw [if_pos c9] at H
      have c9b0 : decide (x12_1 < 10) = true := decide_eq_true c9
      clear c9
      (first | rw [c9b0] | (simp only [i64_w, i32_w]; rw [c9b0]) | skip)
      have H' := Aside0.mk H
      clear H
      go_wp2
      go_meet
      case rel => exact ⟨_, (decide ((wrap64 (x12_1 * a1)) ≤ a3)), z1_1_, H', ⟨by have := HK1.out; first | omega | exact Nat.le_refl _⟩, by repeat (first | exact Drawn0.refl _ | apply Drawn0.step)⟩
    rw [if_neg c9] at H
    have c9b0 : decide (x12_1 < 10) = false := decide_eq_false c9
    clear c9
    (first | rw [c9b0] | (simp only [i64_w, i32_w]; rw [c9b0]) | skip)
    have H' := Aside0.mk H
    clear H
    go_wp2
    go_meet
    case rel => exact ⟨_, (false), z1_1_, H', ⟨by have := HK1.out; first | omega | exact Nat.le_refl _⟩, by repeat (first | exact Drawn0.refl _ | apply Drawn0.step)⟩
   case rest =>
    clear HC8
    (try clear p2);(try clear c6);(try clear c6b0);(try clear c6b1);(try clear p6);(try clear c7);(try clear c7b0);(try clear c7b1);(try clear c8);(try clear c9);(try clear c9b0);(try clear p2)
    obtain ⟨kq, x33_7, rfl, HA, HJ7, ⟨mc7, rfl⟩⟩ := hcut
    cases kq with
    | zero => exact absurd HA.out (by simp [spec_leBoth.j1])
    | succ kj7 =>
     have H := HA.out
     clear HA
     simp only [spec_leBoth.j1] at H
     by_cases c10 : x33_7 = true
     · subst c10
       have H1 : (if x12_1 = 0 then (none) else (if (Int.tmod a4 x12_1) = 0 then ((spec_leBoth.f kj7 (wrap64 ((wrap64 (10 * a0)) + x12_1)) (wrap64 (a1 - 1)) x12_1 (wrap64 (a3 - x12_1)) (wrap64 (Int.tdiv a4 x12_1))).bind fun bt102 => (if bt102.2 = true then (some (bt102.1, true)) else (spec_leBoth.l0 kj7 a0 a1 a3 a4 (wrap64 (x12_1 + 1))))) else (spec_leBoth.l0 kj7 a0 a1 a3 a4 (wrap64 (x12_1 + 1))))) = some (r1, r2) := by rw [if_pos rfl] at H; exact H
       clear H
       have H := H1
       clear H1
       by_cases c11 : x12_1 = 0
       · exact none_ (if_pos c11) H
       rw [if_neg c11] at H
       have c11b0 : (x12_1 == 0) = false := beq_eq_false_iff_ne.mpr c11
       have c11b1 : (x12_1 != 0) = true := bne_iff_ne.mpr c11
       by_cases c12 : (Int.tmod a4 x12_1) = 0
       · rw [if_pos c12] at H
         have c12b0 : ((Int.tmod a4 x12_1) == 0) = true := beq_iff_eq.mpr c12
         have c12b1 : ((Int.tmod a4 x12_1) != 0) = false := bne_eq_false_iff_eq.mpr c12
         clear c12
         replace H := Option.bind_eq_some_iff.mp H
         obtain ⟨⟨t102, t103⟩, A130, H⟩ := H
         dsimp only at H
         have A13 := Aside0.mk A130
         clear A130
         by_cases c14 : t103 = true
         · subst c14
           have H1 : (some (t102, true)) = some (r1, r2) := by rw [if_pos rfl] at H; exact H
           clear H
           have H := H1
           clear H1
           simp only [Option.some.injEq, Prod.mk.injEq] at H
           obtain ⟨rfl, rfl⟩ := H
           go_wp2_with (first | ((with_reducible refine gate_callee (f := 8) rfl ?_); refine goesL_ (some 54) rfl rfl Try.func8 (by kernel_rfl) rfl #[.int .i64 (wrap64 ((wrap64 (10 * a0)) + x12_1)), .int .i64 (wrap64 (a1 - 1)), .int .i64 x12_1, .int .i64 (wrap64 (a3 - x12_1)), .int .i64 (wrap64 (Int.tdiv a4 x12_1))] rfl z1_0_ ?_; (with_reducible refine (ih kj7 (by have := HK1.out; have := HJ7.out; omega) (wrap64 ((wrap64 (10 * a0)) + x12_1)) (wrap64 (a1 - 1)) x12_1 (wrap64 (a3 - x12_1)) (wrap64 (Int.tdiv a4 x12_1)) t102 true _ A13.out).mono ?_); rintro e w' ⟨rfl, ⟨nd, rfl⟩⟩; refine ⟨_, rfl, ?_⟩))
           go_ret2
           exact ⟨by first | rfl | (simp; done) | (simp [*]; done), by repeat (first | exact Drawn0.refl _ | apply Drawn0.step)⟩
         replace c14 := Bool.eq_false_iff.mpr c14
         subst c14
         have H1 : (spec_leBoth.l0 kj7 a0 a1 a3 a4 (wrap64 (x12_1 + 1))) = some (r1, r2) := by rw [if_neg (show ¬ (false = true) by decide)] at H; exact H
         clear H
         have H := H1
         clear H1
         have H' := Aside0.mk H
         clear H
         go_wp2_with (first | ((with_reducible refine gate_callee (f := 8) rfl ?_); refine goesL_ (some 54) rfl rfl Try.func8 (by kernel_rfl) rfl #[.int .i64 (wrap64 ((wrap64 (10 * a0)) + x12_1)), .int .i64 (wrap64 (a1 - 1)), .int .i64 x12_1, .int .i64 (wrap64 (a3 - x12_1)), .int .i64 (wrap64 (Int.tdiv a4 x12_1))] rfl z1_0_ ?_; (with_reducible refine (ih kj7 (by have := HK1.out; have := HJ7.out; omega) (wrap64 ((wrap64 (10 * a0)) + x12_1)) (wrap64 (a1 - 1)) x12_1 (wrap64 (a3 - x12_1)) (wrap64 (Int.tdiv a4 x12_1)) t102 false _ A13.out).mono ?_); rintro e w' ⟨rfl, ⟨nd, rfl⟩⟩; refine ⟨_, rfl, ?_⟩))
         go_roundg kj7
         case measure => have := HK1.out; have := HJ7.out; omega
         case rel => exact ⟨(wrap64 (x12_1 + 1)), z1_1_, H', ⟨by have := HK1.out; have := HJ7.out; omega⟩, by repeat (first | exact Drawn0.refl _ | apply Drawn0.step)⟩
       rw [if_neg c12] at H
       have c12b0 : ((Int.tmod a4 x12_1) == 0) = false := beq_eq_false_iff_ne.mpr c12
       have c12b1 : ((Int.tmod a4 x12_1) != 0) = true := bne_iff_ne.mpr c12
       have H' := Aside0.mk H
       clear H
       go_wp2
       go_roundg kj7
       case measure => have := HK1.out; have := HJ7.out; omega
       case rel => exact ⟨(wrap64 (x12_1 + 1)), z1_1_, H', ⟨by have := HK1.out; have := HJ7.out; omega⟩, by repeat (first | exact Drawn0.refl _ | apply Drawn0.step)⟩
     replace c10 := Bool.eq_false_iff.mpr c10
     subst c10
     have H1 : (some (0, false)) = some (r1, r2) := by rw [if_neg (show ¬ (false = true) by decide)] at H; exact H
     clear H
     have H := H1
     clear H1
     simp only [Option.some.injEq, Prod.mk.injEq] at H
     obtain ⟨rfl, rfl⟩ := H
     go_wp2
     go_ret2
     exact ⟨by first | rfl | (simp; done) | (simp [*]; done), by repeat (first | exact Drawn0.refl _ | apply Drawn0.step)⟩

/-! ### spec_LeastBoth: function 4 -/
mutual
def spec_LeastBoth.j0 : Nat → Int → Int → Bool → Option (Int × Bool)
 | 0, _, _, _ => none
 | k + 1, x0, x1, x16 => if x16 = true then (some (0, false)) else (spec_LeastBoth.l0 k x0 x1 1)
def spec_LeastBoth.l0 : Nat → Int → Int → Int → Option (Int × Bool)
 | 0, _, _, _ => none
 | k + 1, x0, x1, x6 => if x6 ≤ 12 then ((spec_leBoth.f k 0 x6 1 x0 x1).bind fun bt106 => (if bt106.2 = true then (some (bt106.1, true)) else (spec_LeastBoth.l0 k x0 x1 (wrap64 (x6 + 1))))) else (some (0, false))
end
def spec_LeastBoth.f (k : Nat) (a0 : Int) (a1 : Int) : Option (Int × Bool) := (spec_leSum.f a0).bind fun t104 => (if t104 = true then ((spec_l1In.f a1 1 1000000000000).bind fun t105 => (spec_LeastBoth.j0 k a0 a1 (!t105))) else (spec_LeastBoth.j0 k a0 a1 true))
theorem spec_LeastBoth.mono_l : ∀ k, (∀ y0 y1 y2, LeO (spec_LeastBoth.j0 k y0 y1 y2) (spec_LeastBoth.j0 (k + 1) y0 y1 y2)) ∧ (∀ y0 y1 y2, LeO (spec_LeastBoth.l0 k y0 y1 y2) (spec_LeastBoth.l0 (k + 1) y0 y1 y2))
 | 0 => ⟨fun _ _ _ r h => by simp [spec_LeastBoth.j0] at h, fun _ _ _ r h => by simp [spec_LeastBoth.l0] at h⟩
 | k + 1 => by
  obtain ⟨ih0, ih1⟩ := spec_LeastBoth.mono_l k
  refine ⟨?_, ?_⟩
  · intro y0 y1 y2
    unfold spec_LeastBoth.j0
    repeat' first
    | (with_reducible exact ih0 _ _ _)
    | (with_reducible exact ih1 _ _ _)
    | (with_reducible exact spec_leBoth.mono _ _ _ _ _ _)
    | (with_reducible exact LeO.refl _)
    | (with_reducible exact LeO.none _)
    | (with_reducible refine LeO.ite ?_ ?_)
    | (with_reducible refine LeO.bind ?_ (fun _ => ?_))
    | exact ih0 _ _ _
    | exact ih1 _ _ _
    | exact spec_leBoth.mono _ _ _ _ _ _
    | exact LeO.none _
    | refine LeO.ite ?_ ?_
    | refine LeO.bind ?_ (fun _ => ?_)
  intro y0 y1 y2
  unfold spec_LeastBoth.l0
  repeat' first
  | (with_reducible exact ih0 _ _ _)
  | (with_reducible exact ih1 _ _ _)
  | (with_reducible exact spec_leBoth.mono _ _ _ _ _ _)
  | (with_reducible exact LeO.refl _)
  | (with_reducible exact LeO.none _)
  | (with_reducible refine LeO.ite ?_ ?_)
  | (with_reducible refine LeO.bind ?_ (fun _ => ?_))
  | exact ih0 _ _ _
  | exact ih1 _ _ _
  | exact spec_leBoth.mono _ _ _ _ _ _
  | exact LeO.none _
  | refine LeO.ite ?_ ?_
  | refine LeO.bind ?_ (fun _ => ?_)
theorem spec_LeastBoth.mono : ∀ a0 a1 k, LeO (spec_LeastBoth.f k a0 a1) (spec_LeastBoth.f (k + 1) a0 a1) := by
 intro a0 a1 k
 obtain ⟨ih0, ih1⟩ := spec_LeastBoth.mono_l k
 unfold spec_LeastBoth.f
 repeat' first
  | (with_reducible exact ih0 _ _ _)
  | (with_reducible exact ih1 _ _ _)
  | (with_reducible exact spec_leBoth.mono _ _ _ _ _ _)
  | (with_reducible exact LeO.refl _)
  | (with_reducible exact LeO.none _)
  | (with_reducible refine LeO.ite ?_ ?_)
  | (with_reducible refine LeO.bind ?_ (fun _ => ?_))
  | exact ih0 _ _ _
  | exact ih1 _ _ _
  | exact spec_leBoth.mono _ _ _ _ _ _
  | exact LeO.none _
  | refine LeO.ite ?_ ?_
  | refine LeO.bind ?_ (fun _ => ?_)
set_option maxHeartbeats 8000000 in
set_option maxRecDepth 100000 in
theorem spec_LeastBoth.calls (k : Nat) (a0 : Int) (a1 : Int) (r1 : Int) (r2 : Bool) (w : World) (h : spec_LeastBoth.f k a0 a1 = some (r1, r2)) :
 Calls Try.prog 4 #[.int .i64 a0, .int .i64 a1] w fun e w' => e = .returned (.tuple #[.int .i64 r1, .bool r2]) ∧ Drawn0 w w' := by
 have H : ((spec_leSum.f a0).bind fun t104 => (if t104 = true then ((spec_l1In.f a1 1 1000000000000).bind fun t105 => (spec_LeastBoth.j0 k a0 a1 (!t105))) else (spec_LeastBoth.j0 k a0 a1 true))) = some (r1, r2) := h
 clear h
 have HC3 := Aside0.mk H
 clear H
 go_enter Try.func4, Try.ntmps4
 go_upto_region 1 with (fail)
 go_cut [16] (fun v16 wc => ∃ (kq : Nat) (x16_2 : Bool), v16 = .bool x16_2 ∧ Aside0 (spec_LeastBoth.j0 kq a0 a1 x16_2 = some (r1, r2)) ∧ Aside0 (kq ≤ k) ∧ Drawn0 w wc)
 case first =>
  have H := HC3.out
  clear HC3
  replace H := Option.bind_eq_some_iff.mp H
  obtain ⟨t104, A40, H⟩ := H
  have A4 := Aside0.mk A40
  clear A40
  by_cases c5 : t104 = true
  · subst c5
    have H1 : ((spec_l1In.f a1 1 1000000000000).bind fun t105 => (spec_LeastBoth.j0 k a0 a1 (!t105))) = some (r1, r2) := by rw [if_pos rfl] at H; exact H
    clear H
    have H := H1
    clear H1
    replace H := Option.bind_eq_some_iff.mp H
    obtain ⟨t105, A60, H⟩ := H
    have A6 := Aside0.mk A60
    clear A60
    have H' := Aside0.mk H
    clear H
    go_wp2_with (first | ((with_reducible refine gate_callee (f := 6) rfl ?_); refine goesL_ (some 10) rfl rfl Try.func6 (by kernel_rfl) rfl #[.int .i64 a0] rfl z1_0_ ?_; (with_reducible refine (spec_leSum.calls a0 true _ A4.out).mono ?_); rintro e w' ⟨rfl, ⟨nd, rfl⟩⟩; refine ⟨_, rfl, ?_⟩) | (go_at_call 7; (with_reducible refine (spec_l1In.calls a1 1 1000000000000 t105 _ A6.out).mono ?_); rintro e w' ⟨rfl, ⟨nd, rfl⟩⟩))
    go_meet
    case rel => exact ⟨_, (!t105), z1_1_, H', ⟨by first | omega | exact Nat.le_refl _⟩, by repeat (first | exact Drawn0.refl _ | apply Drawn0.step)⟩
  replace c5 := Bool.eq_false_iff.mpr c5
  subst c5
  have H1 : (spec_LeastBoth.j0 k a0 a1 true) = some (r1, r2) := by rw [if_neg (show ¬ (false = true) by decide)] at H; exact H
  clear H
  have H := H1
  clear H1
  have H' := Aside0.mk H
  clear H
  go_wp2_with (first | ((with_reducible refine gate_callee (f := 6) rfl ?_); refine goesL_ (some 10) rfl rfl Try.func6 (by kernel_rfl) rfl #[.int .i64 a0] rfl z1_0_ ?_; (with_reducible refine (spec_leSum.calls a0 false _ A4.out).mono ?_); rintro e w' ⟨rfl, ⟨nd, rfl⟩⟩; refine ⟨_, rfl, ?_⟩))
  go_meet
  case rel => exact ⟨_, (true), z1_1_, H', ⟨by first | omega | exact Nat.le_refl _⟩, by repeat (first | exact Drawn0.refl _ | apply Drawn0.step)⟩
 case rest =>
  clear HC3
  (try clear p2);(try clear c4);(try clear c5);(try clear c6)
  obtain ⟨kq, x16_2, rfl, HA, HJ2, ⟨mc2, rfl⟩⟩ := hcut
  cases kq with
  | zero => exact absurd HA.out (by simp [spec_LeastBoth.j0])
  | succ kj2 =>
   have H := HA.out
   clear HA
   simp only [spec_LeastBoth.j0] at H
   by_cases c7 : x16_2 = true
   · subst c7
     have H1 : (some (0, false)) = some (r1, r2) := by rw [if_pos rfl] at H; exact H
     clear H
     have H := H1
     clear H1
     simp only [Option.some.injEq, Prod.mk.injEq] at H
     obtain ⟨rfl, rfl⟩ := H
     go_wp2
     go_ret2
     exact ⟨by first | rfl | (simp; done) | (simp [*]; done), by repeat (first | exact Drawn0.refl _ | apply Drawn0.step)⟩
   replace c7 := Bool.eq_false_iff.mpr c7
   subst c7
   have H1 : (spec_LeastBoth.l0 kj2 a0 a1 1) = some (r1, r2) := by rw [if_neg (show ¬ (false = true) by decide)] at H; exact H
   clear H
   have H := H1
   clear H1
   have H' := Aside0.mk H
   clear H
   go_wp2
   go_loopg [6] kj2 (fun kq v6 w' => ∃ (x6_2 : Int), v6 = .int .i64 x6_2 ∧ Aside0 (spec_LeastBoth.l0 kq a0 a1 x6_2 = some (r1, r2)) ∧ Aside0 (kq ≤ kj2) ∧ Drawn0 w w')
   case atStart => exact ⟨(1), z1_1_, H', ⟨Nat.le_refl _⟩, by repeat (first | exact Drawn0.refl _ | apply Drawn0.step)⟩
   case round =>
    clear H'
    (try clear c2);(try clear p2);(try clear c4);(try clear c5);(try clear c6);(try clear c7);(try clear p2)
    obtain ⟨x6_2, rfl, HA, HK2, ⟨m2, rfl⟩⟩ := hrel
    cases gk with
    | zero => exact absurd HA.out (by simp [spec_LeastBoth.l0])
    | succ k2 =>
     have H := HA.out
     clear HA
     simp only [spec_LeastBoth.l0] at H
     by_cases c8 : x6_2 ≤ 12
     · rw [if_pos c8] at H
       have c8b0 : decide (x6_2 ≤ 12) = true := decide_eq_true c8
       clear c8
       replace H := Option.bind_eq_some_iff.mp H
       obtain ⟨⟨t106, t107⟩, A90, H⟩ := H
       dsimp only at H
       have A9 := Aside0.mk A90
       clear A90
       by_cases c10 : t107 = true
       · subst c10
         have H1 : (some (t106, true)) = some (r1, r2) := by rw [if_pos rfl] at H; exact H
         clear H
         have H := H1
         clear H1
         simp only [Option.some.injEq, Prod.mk.injEq] at H
         obtain ⟨rfl, rfl⟩ := H
         go_wp2_with (first | ((with_reducible refine gate_callee (f := 8) rfl ?_); refine goesL_ (some 25) rfl rfl Try.func8 (by kernel_rfl) rfl #[.int .i64 0, .int .i64 x6_2, .int .i64 1, .int .i64 a0, .int .i64 a1] rfl z1_0_ ?_; (with_reducible refine (spec_leBoth.calls k2 0 x6_2 1 a0 a1 t106 true _ A9.out).mono ?_); rintro e w' ⟨rfl, ⟨nd, rfl⟩⟩; refine ⟨_, rfl, ?_⟩))
         go_ret2
         exact ⟨by first | rfl | (simp; done) | (simp [*]; done), by repeat (first | exact Drawn0.refl _ | apply Drawn0.step)⟩
       replace c10 := Bool.eq_false_iff.mpr c10
       subst c10
       have H1 : (spec_LeastBoth.l0 k2 a0 a1 (wrap64 (x6_2 + 1))) = some (r1, r2) := by rw [if_neg (show ¬ (false = true) by decide)] at H; exact H
       clear H
       have H := H1
       clear H1
       have H' := Aside0.mk H
       clear H
       go_wp2_with (first | ((with_reducible refine gate_callee (f := 8) rfl ?_); refine goesL_ (some 25) rfl rfl Try.func8 (by kernel_rfl) rfl #[.int .i64 0, .int .i64 x6_2, .int .i64 1, .int .i64 a0, .int .i64 a1] rfl z1_0_ ?_; (with_reducible refine (spec_leBoth.calls k2 0 x6_2 1 a0 a1 t106 false _ A9.out).mono ?_); rintro e w' ⟨rfl, ⟨nd, rfl⟩⟩; refine ⟨_, rfl, ?_⟩))
       go_roundg k2
       case measure => have := HJ2.out; have := HK2.out; omega
       case rel => exact ⟨(wrap64 (x6_2 + 1)), z1_1_, H', ⟨by have := HJ2.out; have := HK2.out; omega⟩, by repeat (first | exact Drawn0.refl _ | apply Drawn0.step)⟩
     rw [if_neg c8] at H
     have c8b0 : decide (x6_2 ≤ 12) = false := decide_eq_false c8
     clear c8
     simp only [Option.some.injEq, Prod.mk.injEq] at H
     obtain ⟨rfl, rfl⟩ := H
     go_wp2
     go_ret2
     exact ⟨by first | rfl | (simp; done) | (simp [*]; done), by repeat (first | exact Drawn0.refl _ | apply Drawn0.step)⟩

/-! ### impl_within: function 15 -/
def impl_within.f (a0 : Int) (a1 : Int) (a2 : Int) : Option (Bool) := if a1 ≤ a0 then (some (decide (a0 ≤ a2))) else (some false)
set_option maxHeartbeats 8000000 in
set_option maxRecDepth 100000 in
theorem impl_within.calls (a0 : Int) (a1 : Int) (a2 : Int) (r : Bool) (w : World) (h : impl_within.f a0 a1 a2 = some r) :
 Calls Try.prog 15 #[.int .i64 a0, .int .i64 a1, .int .i64 a2] w fun e w' => e = .returned (.bool r) ∧ Drawn0 w w' := by
 have H : (if a1 ≤ a0 then (some (decide (a0 ≤ a2))) else (some false)) = some r := h
 clear h
 by_cases c4 : a1 ≤ a0
 · rw [if_pos c4] at H
   have c4b0 : decide (a1 ≤ a0) = true := decide_eq_true c4
   clear c4
   obtain rfl := Option.some.inj H
   go_enter Try.func15, Try.ntmps15
   go_wp2
   go_ret
   exact ⟨by first | rfl | (simp; done) | (simp [*]; done), by repeat (first | exact Drawn0.refl _ | apply Drawn0.step)⟩
 rw [if_neg c4] at H
 have c4b0 : decide (a1 ≤ a0) = false := decide_eq_false c4
 clear c4
 obtain rfl := Option.some.inj H
 go_enter Try.func15, Try.ntmps15
 go_wp2
 go_ret
 exact ⟨by first | rfl | (simp; done) | (simp [*]; done), by repeat (first | exact Drawn0.refl _ | apply Drawn0.step)⟩

/-! ### impl_isSum: function 9 -/
def impl_isSum.f (a0 : Int) : Option (Bool) := (impl_within.f a0 0 108).bind fun t108 => (some t108)
set_option maxHeartbeats 8000000 in
set_option maxRecDepth 100000 in
theorem impl_isSum.calls (a0 : Int) (r : Bool) (w : World) (h : impl_isSum.f a0 = some r) :
 Calls Try.prog 9 #[.int .i64 a0] w fun e w' => e = .returned (.bool r) ∧ Drawn0 w w' := by
 have H : ((impl_within.f a0 0 108).bind fun t108 => (some t108)) = some r := h
 clear h
 replace H := Option.bind_eq_some_iff.mp H
 obtain ⟨t108, A20, H⟩ := H
 have A2 := Aside0.mk A20
 clear A20
 obtain rfl := Option.some.inj H
 go_enter Try.func9, Try.ntmps9
 go_wp2_with (first | ((with_reducible refine gate_callee (f := 15) rfl ?_); refine goesL_ (some 4) rfl rfl Try.func15 (by kernel_rfl) rfl #[.int .i64 a0, .int .i64 0, .int .i64 108] rfl z1_0_ ?_; (with_reducible refine (impl_within.calls a0 0 108 t108 _ A2.out).mono ?_); rintro e w' ⟨rfl, ⟨nd, rfl⟩⟩; refine ⟨_, rfl, ?_⟩))
 go_ret
 exact ⟨by first | rfl | (simp; done) | (simp [*]; done), by repeat (first | exact Drawn0.refl _ | apply Drawn0.step)⟩

/-! ### impl_isProduct: function 10 -/
def impl_isProduct.f (a0 : Int) : Option (Bool) := (impl_within.f a0 1 1000000000000).bind fun t109 => (some t109)
set_option maxHeartbeats 8000000 in
set_option maxRecDepth 100000 in
theorem impl_isProduct.calls (a0 : Int) (r : Bool) (w : World) (h : impl_isProduct.f a0 = some r) :
 Calls Try.prog 10 #[.int .i64 a0] w fun e w' => e = .returned (.bool r) ∧ Drawn0 w w' := by
 have H : ((impl_within.f a0 1 1000000000000).bind fun t109 => (some t109)) = some r := h
 clear h
 replace H := Option.bind_eq_some_iff.mp H
 obtain ⟨t109, A20, H⟩ := H
 have A2 := Aside0.mk A20
 clear A20
 obtain rfl := Option.some.inj H
 go_enter Try.func10, Try.ntmps10
 go_wp2_with (first | ((with_reducible refine gate_callee (f := 15) rfl ?_); refine goesL_ (some 4) rfl rfl Try.func15 (by kernel_rfl) rfl #[.int .i64 a0, .int .i64 1, .int .i64 1000000000000] rfl z1_0_ ?_; (with_reducible refine (impl_within.calls a0 1 1000000000000 t109 _ A2.out).mono ?_); rintro e w' ⟨rfl, ⟨nd, rfl⟩⟩; refine ⟨_, rfl, ?_⟩))
 go_ret
 exact ⟨by first | rfl | (simp; done) | (simp [*]; done), by repeat (first | exact Drawn0.refl _ | apply Drawn0.step)⟩

/-! ### impl_numberOf: function 17 -/
def impl_numberOf.l0 : Nat → ByteArray → Int → Int → Int → Option (Int)
 | 0, _, _, _, _ => none
 | k + 1, x0, x3, x6, x7 => if x7 < x6 then (if 0 ≤ x7 then (if x7 < (x0.size : Int) then (impl_numberOf.l0 k x0 (wrap64 ((wrap64 (10 * x3)) + (((bt x0 x7) - 48) % 256))) x6 (wrap64 (x7 + 1))) else (none)) else (none)) else (some x3)
def impl_numberOf.f (k : Nat) (a0 : ByteArray) : Option (Int) := impl_numberOf.l0 k a0 0 (a0.size : Int) 0
theorem impl_numberOf.mono_l : ∀ k, (∀ y0 y1 y2 y3, LeO (impl_numberOf.l0 k y0 y1 y2 y3) (impl_numberOf.l0 (k + 1) y0 y1 y2 y3))
 | 0 => fun _ _ _ _ r h => by simp [impl_numberOf.l0] at h
 | k + 1 => by
  have ih0 := impl_numberOf.mono_l k
  intro y0 y1 y2 y3
  unfold impl_numberOf.l0
  repeat' first
  | (with_reducible exact ih0 _ _ _ _)
  | (with_reducible exact LeO.refl _)
  | (with_reducible exact LeO.none _)
  | (with_reducible refine LeO.ite ?_ ?_)
  | (with_reducible refine LeO.bind ?_ (fun _ => ?_))
  | exact ih0 _ _ _ _
  | exact LeO.none _
  | refine LeO.ite ?_ ?_
  | refine LeO.bind ?_ (fun _ => ?_)
theorem impl_numberOf.mono : ∀ a0 k, LeO (impl_numberOf.f k a0) (impl_numberOf.f (k + 1) a0) := by
 intro a0 k
 have ih0 := impl_numberOf.mono_l k
 unfold impl_numberOf.f
 repeat' first
  | (with_reducible exact ih0 _ _ _ _)
  | (with_reducible exact LeO.refl _)
  | (with_reducible exact LeO.none _)
  | (with_reducible refine LeO.ite ?_ ?_)
  | (with_reducible refine LeO.bind ?_ (fun _ => ?_))
  | exact ih0 _ _ _ _
  | exact LeO.none _
  | refine LeO.ite ?_ ?_
  | refine LeO.bind ?_ (fun _ => ?_)
set_option maxHeartbeats 8000000 in
set_option maxRecDepth 100000 in
theorem impl_numberOf.calls (k : Nat) (a0 : ByteArray) (r : Int) (w : World) (h : impl_numberOf.f k a0 = some r) :
 Calls Try.prog 17 #[.string a0] w fun e w' => e = .returned (.int .i64 r) ∧ Drawn0 w w' := by
 have H : (impl_numberOf.l0 k a0 0 (a0.size : Int) 0) = some r := h
 clear h
 have H' := Aside0.mk H
 clear H
 go_enter Try.func17, Try.ntmps17
 go_wp2
 go_loopg [3, 7] k (fun kq v3 v7 w' => ∃ (x3_1 : Int) (x7_1 : Int), v3 = .int .i64 x3_1 ∧ v7 = .int .i64 x7_1 ∧ Aside0 (impl_numberOf.l0 kq a0 x3_1 (a0.size : Int) x7_1 = some r) ∧ Aside0 (kq ≤ k) ∧ Drawn0 w w')
 case atStart => exact ⟨(0), (0), z1_1_, z1_1_, H', ⟨Nat.le_refl _⟩, by repeat (first | exact Drawn0.refl _ | apply Drawn0.step)⟩
 case round =>
  clear H'
  try clear c1
  obtain ⟨x3_1, x7_1, rfl, rfl, HA, HK1, ⟨m1, rfl⟩⟩ := hrel
  cases gk with
  | zero => exact absurd HA.out (by simp [impl_numberOf.l0])
  | succ k1 =>
   have H := HA.out
   clear HA
   simp only [impl_numberOf.l0] at H
   by_cases c2 : x7_1 < (a0.size : Int)
   · rw [if_pos c2] at H
     have c2b0 : decide (x7_1 < (a0.size : Int)) = true := decide_eq_true c2
     clear c2
     by_cases c3 : 0 ≤ x7_1
     rotate_left
     · exact none_ (if_neg c3) H
     rw [if_pos c3] at H
     have c3b0 : decide (0 ≤ x7_1) = true := decide_eq_true c3
     clear c3
     by_cases c4 : x7_1 < (a0.size : Int)
     rotate_left
     · exact none_ (if_neg c4) H
     rw [if_pos c4] at H
     have c4b0 : decide (x7_1 < (a0.size : Int)) = true := decide_eq_true c4
     clear c4
     have H' := Aside0.mk H
     clear H
     have p5 : 0 ≤ (x7_1 : Int) := of_decide_eq_true (by first | (with_reducible assumption) | assumption)
     have q5 : x7_1 < (a0.size : Int) := of_decide_eq_true (by first | (with_reducible assumption) | assumption)
     have hx5 := bt_at a0 x7_1
     replace p5 := eq_true p5
     replace q5 := eq_true q5
     go_wp2
     go_roundg k1
     case measure => have := HK1.out; omega
     case rel => exact ⟨(wrap64 ((wrap64 (10 * x3_1)) + (((bt a0 x7_1) - 48) % 256))), (wrap64 (x7_1 + 1)), z1_1_, z1_1_, H', ⟨by have := HK1.out; omega⟩, by repeat (first | exact Drawn0.refl _ | apply Drawn0.step)⟩
   rw [if_neg c2] at H
   have c2b0 : decide (x7_1 < (a0.size : Int)) = false := decide_eq_false c2
   clear c2
   obtain rfl := Option.some.inj H
   go_wp2
   go_ret
   exact ⟨by first | rfl | (simp; done) | (simp [*]; done), by repeat (first | exact Drawn0.refl _ | apply Drawn0.step)⟩

/-! ### impl_asLeast: function 12 -/
-- behind 17
def impl_asLeast.f (k : Nat) (xs : List Int) : Option (Int × Bool) := if xs.length > 12 then some (0, false) else (impl_numberOf.f k (strOfNums (SortB.sorted xs))).bind fun r => some (r, true)
theorem impl_asLeast.mono : ∀ xs k, LeO (impl_asLeast.f k xs) (impl_asLeast.f (k + 1) xs) := by
 intro xs k
 unfold impl_asLeast.f
 exact LeO.ite (LeO.refl _) (LeO.bind (impl_numberOf.mono _ _) (fun _ => LeO.refl _))
set_option maxHeartbeats 8000000 in
set_option maxRecDepth 100000 in
open Bytes in
theorem impl_asLeast.calls (k g cap : Nat) (ok : Nat → Prop) (xs : List Int) (r1 : Int) (r2 : Bool) (w w0 : World) (hB : Below w0.heap.size w0 w) (hm : MZ 5 w w0.heap.size ok (.slice (some ⟨g, 0, none⟩) xs.length cap) xs) (hn : xs.length < 4611686018427387904) (h : impl_asLeast.f k xs = some (r1, r2)) :
 Calls Try.prog 12 #[.slice (some ⟨g, 0, none⟩) xs.length cap] w fun e w' => e = .returned (.tuple #[.int .i64 r1, .bool r2]) ∧ Below w0.heap.size w0 w' := by
 obtain ⟨ys, hys⟩ : ∃ ys, ys = SortB.sorted xs := ⟨_, rfl⟩
 have hyl : ys.length = xs.length := by rw [hys, SortB.sorted_length]
 unfold impl_asLeast.f at h
 rw [← hys] at h
 have HM := Aside0.mk hm
 have HB := Aside0.mk hB
 have HYS := Aside0.mk hys
 have HYL := Aside0.mk hyl
 have HN := Aside0.mk hn
 clear hm hB hys hyl hn
 by_cases c : xs.length > 12
 · rw [if_pos c] at h
   simp only [Option.some.injEq, Prod.mk.injEq] at h
   obtain ⟨rfl, rfl⟩ := h
   have d1 : decide ((12 : Int) < (xs.length : Int)) = true := decide_eq_true (by omega)
   have d2 : decide (12 < xs.length) = true := decide_eq_true c
   clear c
   go_enter Try.func12, Try.ntmps12
   go_wp2_with (first | (go_at_call 16; (with_reducible refine (Sort_MZ HB.out HM.out HN.out).mono ?_); rintro e w8 ⟨rfl, ho, hb⟩; rw [← HYS.out] at ho; clear HM HB; have HM := Aside0.mk ho; have HB := Aside0.mk hb; clear ho hb))
   go_ret2
   exact ⟨rfl, HB.out⟩
 rw [if_neg c] at h
 obtain ⟨q, hq, h⟩ := Option.bind_eq_some_iff.mp h
 simp only [Option.some.injEq, Prod.mk.injEq] at h
 obtain ⟨rfl, rfl⟩ := h
 have HQ := Aside0.mk hq
 have d1 : decide ((12 : Int) < (xs.length : Int)) = false := decide_eq_false (by omega)
 have d2 : decide (12 < xs.length) = false := decide_eq_false c
 clear c hq
 go_enter Try.func12, Try.ntmps12
 go_wp2_with (first | (go_at_call 16; (with_reducible refine (Sort_MZ HB.out HM.out HN.out).mono ?_); rintro e w8 ⟨rfl, ho, hb⟩; rw [← HYS.out] at ho; clear HM HB; have HB := Aside0.mk hb; have hC := (MZ_reads' ho).2.2; rw [HYL.out] at hC; have hcv := Kd.C_string (P := Try.prog) (src := 29) (dst := 9) (e := 5) (c := cap) Try.underlying29 Try.underlying5 Try.underlying9 hC; clear ho hb hC) | (go_at_call 17; (with_reducible refine (impl_numberOf.calls k _ q _ HQ.out).mono ?_); rintro e w' ⟨rfl, ⟨nd, rfl⟩⟩))
 go_ret2
 exact ⟨rfl, by repeat (first | exact HB.out | apply pw_below_drewN | apply below_drew1)⟩
set_option maxHeartbeats 8000000 in
set_option maxRecDepth 100000 in
theorem impl_asLeast.calls_nil (k : Nat) (A : Option Addr) (cap : Nat) (r1 : Int) (r2 : Bool) (w : World) (h : impl_asLeast.f k [] = some (r1, r2)) :
 Calls Try.prog 12 #[.slice A 0 cap] w fun e w' => e = .returned (.tuple #[.int .i64 r1, .bool r2]) ∧ Below w.heap.size w w' := by
 unfold impl_asLeast.f at h
 rw [if_neg (by simp)] at h
 obtain ⟨q, hq, h⟩ := Option.bind_eq_some_iff.mp h
 simp only [Option.some.injEq, Prod.mk.injEq] at h
 obtain ⟨rfl, rfl⟩ := h
 have hs : SortB.sorted ([] : List Int) = [] := by
  have := SortB.sorted_length ([] : List Int)
  exact List.eq_nil_of_length_eq_zero (by simpa using this)
 rw [hs] at hq
 have HQ := Aside0.mk hq
 have HB := Aside0.mk (Below.refl w.heap.size w)
 have hcv := Kd.C_string (P := Try.prog) (w := w) (src := 29) (dst := 9) (e := 5) (c := cap) (A := A) (n := 0) (xs := []) Try.underlying29 Try.underlying5 Try.underlying9 (show (Kd.int .u8).C w A 0 [] from ⟨rfl, by simp, fun h => absurd h (Nat.lt_irrefl 0)⟩)
 clear hq hs
 go_enter Try.func12, Try.ntmps12
 go_wp2_with (first | (go_at_call 16; (with_reducible refine (SortB.Sort_int_nil A cap _).mono ?_); rintro e w8 ⟨rfl, rfl⟩) | (go_at_call 17; (with_reducible refine (impl_numberOf.calls k _ q _ HQ.out).mono ?_); rintro e w' ⟨rfl, ⟨nd, rfl⟩⟩))
 go_ret2
 exact ⟨rfl, by repeat (first | exact HB.out | apply pw_below_drewN | apply below_drew1)⟩
open Bytes in
theorem impl_asLeast.own (k : Nat) (v : Value) (xs : List Int) (r1 : Int) (r2 : Bool) (w w0 : World) (hB : Below w0.heap.size w0 w) (ho : w.ownsRow w0.heap.size 5 1 v xs.length (nums .u8 xs)) (hn : xs.length < 4611686018427387904) (h : impl_asLeast.f k xs = some (r1, r2)) :
 Calls Try.prog 12 #[v] w fun e w' => e = .returned (.tuple #[.int .i64 r1, .bool r2]) ∧ Below w0.heap.size w0 w' := by
 by_cases hp : 0 < xs.length
 · have hm := MZ_of_own (ok := fun _ => True) (fun _ _ => trivial) hp ho
   obtain ⟨g, cap, rfl, _⟩ := MZ_form hm hp
   exact impl_asLeast.calls k g cap _ xs r1 r2 w w0 hB hm hn h
 have hx : xs = [] := List.eq_nil_of_length_eq_zero (by omega)
 subst hx
 rcases ho.2 with ⟨rfl, _⟩ | ⟨g, cap, cur, rfl, hg, hh, r⟩
 · exact (impl_asLeast.calls_nil k none 0 r1 r2 w h).mono fun e w' ⟨h1, h2⟩ => ⟨h1, below_step hB h2⟩
 exact (impl_asLeast.calls_nil k _ cap r1 r2 w h).mono fun e w' ⟨h1, h2⟩ => ⟨h1, below_step hB h2⟩

/-! ### slices_Clone_byte: function 13 -/
def slices_Clone_byte.f (l0 : List Int) : Option (List Int) := if l0.length < 140737488355328 then some l0 else none
set_option maxHeartbeats 8000000 in
set_option maxRecDepth 100000 in
theorem slices_Clone_byte.calls (A0 : Option Addr) (c0 : Nat) (l0 : List (Int)) (r : List (Int)) (w : World) (hr0 : Kd.C (Kd.int .u8) w A0 l0.length l0) (hc0 : l0.length ≤ c0) (h : slices_Clone_byte.f l0 = some r) :
 Calls Try.prog 13 #[.slice A0 l0.length c0] w fun e w' => ∃ v0_ : Value, e = .returned (v0_) ∧ Kd.R (Kd.int .u8) 5 w' w.heap.size (fun _ => True) v0_ r ∧ Below w.heap.size w w' := by
 have HR0 := Aside0.mk hr0
 have HC0 := Aside0.mk hc0
 have HB := Aside0.mk (Below.refl w.heap.size w)
 have heq := fun W => Lib.run_eql_slice_nil (P := Try.prog) W 29 5 A0 l0.length c0 0 0 Try.underlying29
 unfold slices_Clone_byte.f at h
 by_cases hlim : l0.length < 140737488355328
 rotate_left
 · exact none_ (if_neg hlim) h
 rw [if_pos hlim] at h
 obtain rfl := Option.some.inj h
 have LM := Aside0.mk hlim
 clear h hlim
 cases A0 with
 | none =>
  have hl : l0 = [] := by
   have h3 := hr0.2.2
   have : ¬ 0 < l0.length := fun hp => by obtain ⟨ad, e, _⟩ := h3 hp; cases e
   exact List.eq_nil_of_length_eq_zero (by omega)
  have HL := Aside0.mk hl
  clear hl hr0 hc0
  simp only [Option.isNone_none] at heq
  go_enter Try.func13, Try.ntmps13
  go_wp2
  go_ret
  exact ⟨_, rfl, by rw [HL.out]; exact Kd.R_nil _ _ _ _ _, HB.out⟩
 | some a0 =>
  clear hr0 hc0
  simp only [Option.isNone_some] at heq
  obtain ⟨y101, hy101⟩ : ∃ y_ : List (Int), y_ = (([] : List (Int))) := ⟨_, rfl⟩
  have Ny101 := Aside0.mk hy101
  have LMc2 := Aside0.mk (show y101.length + l0.length < 140737488355328 by rw [hy101]; simpa using LM.out)
  obtain ⟨y104, hy104⟩ : ∃ y_ : List (Int), y_ = (y101 ++ l0) := ⟨_, rfl⟩
  have Ny104 := Aside0.mk hy104
  have NL := Aside0.mk (show y104 = l0 by rw [hy104, hy101]; rfl)
  clear hy101 hy104
  go_enter Try.func13, Try.ntmps13
  go_wp2_with (first | ((with_reducible refine gate_dst (N := 5) rfl ?_); refine Kd.R_lit (Kd.int .u8) _ 5 ?hg (N := 5) ?hd (xs := ([] : List (Int))) (inner := []) (ok := fun _ => True) (okp := fun _ => True) ?hr ?hp (fun _ hk => hk) trivial (Below.refl _ _) (Nat.le_refl _) (by simp) ?_; (case hd => rfl); (case hg => rfl); (case hr => first | (go_simp; done) | (go_simp; rfl)); (case hp => exact (Reps.none _ _)); intro v102 w3 ho4 hb hg_ hnew_; clear hg_ hnew_; (first | rw [← Ny101.out] at ho4 | (simp only [Int.reduceToNat] at ho4; rw [← Ny101.out] at ho4)); have n0_ := Aside0.mk (Kd.R_lower ho4 (below_size z1_2_)); have n1_ := Aside0.mk (below_step z1_2_ hb); clear HB; have HO103 := n0_; have HB := n1_; clear n0_ n1_; clear hb ho4) | ((with_reducible refine gate_builtin (b := .append) (xs := #[.tmp 5, .tmp 6]) rfl ?_); at_builtin; refine Kd.R_append_rows (Kd.int .u8) (w0 := w) w.heap.size rfl (.tmp 5) (.tmp 6) 29 5 (.int .u8 0) 1 rfl Try.underlying29 (by kernel_rfl) rfl (by decide) (by omega) v102 y101 l0 _ _ _ (fun _ => True) (fun _ => False) rfl rfl ?aO ?aR (fun _ _ h => h) (fun _ h => h.elim) ?aF ?aB ?aS ?aL ?_; (case aR => repeat (first | exact (Kd.C_below HR0.out HB.out) | (with_reducible refine Kd.C_alloc ?_ _) | (with_reducible refine Kd.C_drewN ?_ _) | (with_reducible refine Kd.C_drew ?_))); (case aB => exact z1_2_); (case aF => exact (fun _ _ => trivial)); (case aO => exact (by (with_reducible repeat (first | apply Kd.R_alloc | apply Kd.R_drewN | apply Kd.R_drew)); exact HO103.out)); (case aS => exact (below_size z1_2_)); (case aL => have := LMc2.out; omega); intro v105 w5 ho hb hg hat; rw [← Ny104.out] at ho; have n0_ := Aside0.mk (hb); have n1_ := Aside0.mk (ho); clear HB; clear HO103; have HB := n0_; have HO106 := n1_; clear n0_ n1_; clear ho hb hg hat))
  go_ret
  exact ⟨_, rfl, by (with_reducible repeat (first | apply Kd.R_alloc | apply Kd.R_drewN | apply Kd.R_drew)); rw [← NL.out]; exact HO106.out, by repeat (first | (with_reducible first | exact HB.out | apply below_alloc | apply pw_below_drewN | apply below_drew1) | exact HB.out)⟩

/-! ### strings_Repeat: function 14 -/
def strings_Repeat.f (a0 : ByteArray) (a1 : Int) : Option ByteArray := if 0 ≤ a1 then (if a1 ≤ 9223372036854775807 then (if a0.size * a1.toNat ≤ 140737488355328 then some ⟨(Lib.repeatL a0.data.toList a1.toNat).toArray⟩ else none) else none) else none
theorem strings_Repeat.calls (a0 : ByteArray) (a1 : Int) (r : ByteArray) (w : World) (h : strings_Repeat.f a0 a1 = some r) :
 Calls Try.prog 14 #[.string a0, .int .i64 a1] w fun e w' => e = .returned (.string r) ∧ Below w.heap.size w w' := by
 unfold strings_Repeat.f at h
 by_cases h0 : 0 ≤ a1
 rotate_left
 · exact none_ (if_neg h0) h
 rw [if_pos h0] at h
 by_cases h1 : a1 ≤ 9223372036854775807
 rotate_left
 · exact none_ (if_neg h1) h
 rw [if_pos h1] at h
 by_cases h2 : a0.size * a1.toNat ≤ 140737488355328
 rotate_left
 · exact none_ (if_neg h2) h
 rw [if_pos h2] at h
 obtain rfl := Option.some.inj h
 obtain ⟨i, rfl⟩ : ∃ i : Nat, a1 = (i : Int) := ⟨a1.toNat, by omega⟩
 rw [Int.toNat_natCast] at h2 ⊢
 exact Shelf.Repeat a0 i w (by omega) h2

end Go.Proofs.Ytogonichanoeaaa.PFnExactLeastBoth

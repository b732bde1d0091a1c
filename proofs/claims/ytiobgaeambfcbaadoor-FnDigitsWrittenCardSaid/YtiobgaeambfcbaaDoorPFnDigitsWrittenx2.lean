-- Laid by this session's program gprint.py over the kit's print.
import Derived.Test.YtiobgaeambfcbaaDoorPFnDigitsWrittenx0
import Derived.Test.YtiobgaeambfcbaaDoorPFnDigitsWrittenx1
namespace Go.Proofs.YtiobgaeambfcbaaDoor.PFnDigitsWritten
open Go.RowKit Go.Proofs.YtiobgaeambfcbaaDoorW.PrintWords Go.Proofs.YtiobgaeambfcbaaDoorW.PrintLast Go.Proofs.YtiobgaeambfcbaaDoorW.PrintMore
attribute [local go_sem] max2_int min2_int max_two min_two max_three min_three max_four min_four   -- for this text's walks alone
set_option linter.unusedVariables false
set_option linter.unusedSimpArgs false
theorem z2_0_ {p : Prop} (h : p := by (try simp only [List.map_toArray, List.map_cons, List.map_nil]); first | done | rfl | (simp only [List.length_drop, List.length_take]; rfl)) : p := h
theorem z2_1_ {p : Prop} (h : p := by first | rfl | (simp; done) | (simp [*]; done)) : p := h
theorem z2_2_ {p : Prop} (h : p := by repeat (first | (with_reducible first | exact HB.out | apply below_alloc | apply pw_below_drewN | apply below_drew1) | exact HB.out)) : p := h

/-! ### spec_diCount: function 37 -/
mutual
def spec_diCount.l0 : Nat → Int → Int → Int → Int → Option (Int)
 | 0, _, _, _, _ => none
 | k + 1, x0, x1, x5, x6 => if x6 ≤ x0 then (if (wrap64 (x6 * 10)) = 0 then (none) else (if x6 = 0 then (none) else (if x1 = 0 then (spec_diCount.j1 k x0 x1 x5 x6 (wrap64 ((wrap64 (Int.tdiv x0 (wrap64 (x6 * 10)))) - 1)) (Int.tmod (wrap64 (Int.tdiv x0 x6)) 10) (Int.tmod x0 x6)) else (spec_diCount.j1 k x0 x1 x5 x6 (wrap64 (Int.tdiv x0 (wrap64 (x6 * 10)))) (Int.tmod (wrap64 (Int.tdiv x0 x6)) 10) (Int.tmod x0 x6))))) else (some x5)
def spec_diCount.j1 : Nat → Int → Int → Int → Int → Int → Int → Int → Option (Int)
 | 0, _, _, _, _, _, _, _ => none
 | k + 1, x0, x1, x5, x6, x7, x8, x9 => if x7 < 0 then (spec_diCount.l0 k x0 x1 x5 (wrap64 (x6 * 10))) else (if x8 > x1 then (spec_diCount.l0 k x0 x1 (wrap64 ((wrap64 (x5 + (wrap64 (x7 * x6)))) + x6)) (wrap64 (x6 * 10))) else (if x8 = x1 then (spec_diCount.l0 k x0 x1 (wrap64 ((wrap64 (x5 + (wrap64 (x7 * x6)))) + (wrap64 (x9 + 1)))) (wrap64 (x6 * 10))) else (spec_diCount.l0 k x0 x1 (wrap64 (x5 + (wrap64 (x7 * x6)))) (wrap64 (x6 * 10)))))
end
def spec_diCount.f (k : Nat) (a0 : Int) (a1 : Int) : Option (Int) := spec_diCount.l0 k a0 a1 0 1
theorem spec_diCount.mono_l : ∀ k, (∀ y0 y1 y2 y3, LeO (spec_diCount.l0 k y0 y1 y2 y3) (spec_diCount.l0 (k + 1) y0 y1 y2 y3)) ∧ (∀ y0 y1 y2 y3 y4 y5 y6, LeO (spec_diCount.j1 k y0 y1 y2 y3 y4 y5 y6) (spec_diCount.j1 (k + 1) y0 y1 y2 y3 y4 y5 y6))
 | 0 => ⟨fun _ _ _ _ r h => by simp [spec_diCount.l0] at h, fun _ _ _ _ _ _ _ r h => by simp [spec_diCount.j1] at h⟩
 | k + 1 => by
  obtain ⟨ih0, ih1⟩ := spec_diCount.mono_l k
  refine ⟨?_, ?_⟩
  · intro y0 y1 y2 y3
    unfold spec_diCount.l0
    repeat' first
    | (with_reducible exact ih0 _ _ _ _)
    | (with_reducible exact ih1 _ _ _ _ _ _ _)
    | (with_reducible exact LeO.refl _)
    | (with_reducible exact LeO.none _)
    | (with_reducible refine LeO.ite ?_ ?_)
    | (with_reducible refine LeO.bind ?_ (fun _ => ?_))
    | exact ih0 _ _ _ _
    | exact ih1 _ _ _ _ _ _ _
    | exact LeO.none _
    | refine LeO.ite ?_ ?_
    | refine LeO.bind ?_ (fun _ => ?_)
  intro y0 y1 y2 y3 y4 y5 y6
  unfold spec_diCount.j1
  repeat' first
  | (with_reducible exact ih0 _ _ _ _)
  | (with_reducible exact ih1 _ _ _ _ _ _ _)
  | (with_reducible exact LeO.refl _)
  | (with_reducible exact LeO.none _)
  | (with_reducible refine LeO.ite ?_ ?_)
  | (with_reducible refine LeO.bind ?_ (fun _ => ?_))
  | exact ih0 _ _ _ _
  | exact ih1 _ _ _ _ _ _ _
  | exact LeO.none _
  | refine LeO.ite ?_ ?_
  | refine LeO.bind ?_ (fun _ => ?_)
theorem spec_diCount.mono : ∀ a0 a1 k, LeO (spec_diCount.f k a0 a1) (spec_diCount.f (k + 1) a0 a1) := by
 intro a0 a1 k
 obtain ⟨ih0, ih1⟩ := spec_diCount.mono_l k
 unfold spec_diCount.f
 repeat' first
  | (with_reducible exact ih0 _ _ _ _)
  | (with_reducible exact ih1 _ _ _ _ _ _ _)
  | (with_reducible exact LeO.refl _)
  | (with_reducible exact LeO.none _)
  | (with_reducible refine LeO.ite ?_ ?_)
  | (with_reducible refine LeO.bind ?_ (fun _ => ?_))
  | exact ih0 _ _ _ _
  | exact ih1 _ _ _ _ _ _ _
  | exact LeO.none _
  | refine LeO.ite ?_ ?_
  | refine LeO.bind ?_ (fun _ => ?_)
set_option maxHeartbeats 8000000 in
set_option maxRecDepth 100000 in
theorem spec_diCount.calls (k : Nat) (a0 : Int) (a1 : Int) (r : Int) (w : World) (h : spec_diCount.f k a0 a1 = some r) :
 Calls Tryd.prog 37 #[.int .i64 a0, .int .i64 a1] w fun e w' => e = .returned (.int .i64 r) ∧ Drawn0 w w' := by
 have H : (spec_diCount.l0 k a0 a1 0 1) = some r := h
 clear h
 have H' := Aside0.mk H
 clear H
 go_enter Tryd.func37, Tryd.ntmps37
 go_wp2
 repeat (go_quiet (fail); try go_wp2)
 go_loopg [5, 6] k (fun kq v5 v6 w' => ∃ (x5_1 : Int) (x6_1 : Int), v5 = .int .i64 x5_1 ∧ v6 = .int .i64 x6_1 ∧ Aside0 (spec_diCount.l0 kq a0 a1 x5_1 x6_1 = some r) ∧ Aside0 (kq ≤ k) ∧ Drawn0 w w')
 case atStart => exact ⟨(0), (1), z2_1_, z2_1_, H', ⟨Nat.le_refl _⟩, by repeat (first | exact Drawn0.refl _ | apply Drawn0.step)⟩
 case round =>
  clear H'
  try clear p2
  obtain ⟨x5_1, x6_1, rfl, rfl, HA, HK1, ⟨m1, rfl⟩⟩ := hrel
  cases gk with
  | zero => exact absurd HA.out (by simp [spec_diCount.l0])
  | succ k1 =>
   have H := HA.out
   clear HA
   simp only [spec_diCount.l0] at H
   by_cases c3 : x6_1 ≤ a0
   · rw [if_pos c3] at H
     have c3b0 : decide (x6_1 ≤ a0) = true := decide_eq_true c3
     clear c3
     by_cases c4 : (wrap64 (x6_1 * 10)) = 0
     · exact none_ (if_pos c4) H
     rw [if_neg c4] at H
     have c4b0 : ((wrap64 (x6_1 * 10)) == 0) = false := beq_eq_false_iff_ne.mpr c4
     have c4b1 : ((wrap64 (x6_1 * 10)) != 0) = true := bne_iff_ne.mpr c4
     by_cases c5 : x6_1 = 0
     · exact none_ (if_pos c5) H
     rw [if_neg c5] at H
     have c5b0 : (x6_1 == 0) = false := beq_eq_false_iff_ne.mpr c5
     have c5b1 : (x6_1 != 0) = true := bne_iff_ne.mpr c5
     have HC6 := Aside0.mk H
     clear H
     go_upto_if 27 with (fail)
     repeat (go_quiet (fail); go_upto_if 27 with (fail))
     go_cut [7] (fun v7 wc => ∃ (kq : Nat) (x7_5 : Int), v7 = .int .i64 x7_5 ∧ Aside0 (spec_diCount.j1 kq a0 a1 x5_1 x6_1 x7_5 (Int.tmod (wrap64 (Int.tdiv a0 x6_1)) 10) (Int.tmod a0 x6_1) = some r) ∧ Aside0 (kq ≤ k1) ∧ Drawn0 w wc)
     case first =>
      have H := HC6.out
      clear HC6
      by_cases c7 : a1 = 0
      · rw [if_pos c7] at H
        have c7b0 : (a1 == 0) = true := beq_iff_eq.mpr c7
        have c7b1 : (a1 != 0) = false := bne_eq_false_iff_eq.mpr c7
        clear c7
        (first | rw [c7b0] | (simp only [i64_w, i32_w]; rw [c7b0]) | skip)
        have H' := Aside0.mk H
        clear H
        go_wp2
        repeat (go_quiet (fail); try go_wp2)
        go_meet
        case rel => exact ⟨_, (wrap64 ((wrap64 (Int.tdiv a0 (wrap64 (x6_1 * 10)))) - 1)), z2_1_, H', ⟨by have := HK1.out; first | omega | exact Nat.le_refl _⟩, by repeat (first | exact Drawn0.refl _ | apply Drawn0.step)⟩
      rw [if_neg c7] at H
      have c7b0 : (a1 == 0) = false := beq_eq_false_iff_ne.mpr c7
      have c7b1 : (a1 != 0) = true := bne_iff_ne.mpr c7
      (first | rw [c7b0] | (simp only [i64_w, i32_w]; rw [c7b0]) | skip)
      have H' := Aside0.mk H
      clear H
      go_wp2
      repeat (go_quiet (fail); try go_wp2)
      go_meet
      case rel => exact ⟨_, (wrap64 (Int.tdiv a0 (wrap64 (x6_1 * 10)))), z2_1_, H', ⟨by have := HK1.out; first | omega | exact Nat.le_refl _⟩, by repeat (first | exact Drawn0.refl _ | apply Drawn0.step)⟩
     case rest =>
      clear HC6
      (try clear p2);(try clear c3);(try clear c3b0);(try clear c4);(try clear c4b0);(try clear c4b1);(try clear c5);(try clear c5b0);(try clear c5b1);(try clear p6);(try clear c7);(try clear c7b0);(try clear c7b1);(try clear p2)
      obtain ⟨kq, x7_5, rfl, HA, HJ5, ⟨mc5, rfl⟩⟩ := hcut
      cases kq with
      | zero => exact absurd HA.out (by simp [spec_diCount.j1])
      | succ kj5 =>
       have H := HA.out
       clear HA
       simp only [spec_diCount.j1] at H
       by_cases c8 : x7_5 < 0
       · rw [if_pos c8] at H
         have c8b0 : decide (x7_5 < 0) = true := decide_eq_true c8
         clear c8
         have H' := Aside0.mk H
         clear H
         go_wp2
         repeat (go_quiet (fail); try go_wp2)
         go_roundg kj5
         case measure => have := HK1.out; have := HJ5.out; omega
         case rel => exact ⟨(x5_1), (wrap64 (x6_1 * 10)), z2_1_, z2_1_, H', ⟨by have := HK1.out; have := HJ5.out; omega⟩, by repeat (first | exact Drawn0.refl _ | apply Drawn0.step)⟩
       rw [if_neg c8] at H
       have c8b0 : decide (x7_5 < 0) = false := decide_eq_false c8
       clear c8
       by_cases c9 : (Int.tmod (wrap64 (Int.tdiv a0 x6_1)) 10) > a1
       · rw [if_pos c9] at H
         have c9b0 : decide (a1 < (Int.tmod (wrap64 (Int.tdiv a0 x6_1)) 10)) = true := decide_eq_true c9
         clear c9
         have H' := Aside0.mk H
         clear H
         go_wp2
         repeat (go_quiet (fail); try go_wp2)
         go_roundg kj5
         case measure => have := HK1.out; have := HJ5.out; omega
         case rel => exact ⟨(wrap64 ((wrap64 (x5_1 + (wrap64 (x7_5 * x6_1)))) + x6_1)), (wrap64 (x6_1 * 10)), z2_1_, z2_1_, H', ⟨by have := HK1.out; have := HJ5.out; omega⟩, by repeat (first | exact Drawn0.refl _ | apply Drawn0.step)⟩
       rw [if_neg c9] at H
       have c9b0 : decide (a1 < (Int.tmod (wrap64 (Int.tdiv a0 x6_1)) 10)) = false := decide_eq_false c9
       clear c9
       by_cases c10 : (Int.tmod (wrap64 (Int.tdiv a0 x6_1)) 10) = a1
       · rw [if_pos c10] at H
         have c10b0 : ((Int.tmod (wrap64 (Int.tdiv a0 x6_1)) 10) == a1) = true := beq_iff_eq.mpr c10
         have c10b1 : ((Int.tmod (wrap64 (Int.tdiv a0 x6_1)) 10) != a1) = false := bne_eq_false_iff_eq.mpr c10
         clear c10
         have H' := Aside0.mk H
         clear H
         go_wp2
         repeat (go_quiet (fail); try go_wp2)
         go_roundg kj5
         case measure => have := HK1.out; have := HJ5.out; omega
         case rel => exact ⟨(wrap64 ((wrap64 (x5_1 + (wrap64 (x7_5 * x6_1)))) + (wrap64 ((Int.tmod a0 x6_1) + 1)))), (wrap64 (x6_1 * 10)), z2_1_, z2_1_, H', ⟨by have := HK1.out; have := HJ5.out; omega⟩, by repeat (first | exact Drawn0.refl _ | apply Drawn0.step)⟩
       rw [if_neg c10] at H
       have c10b0 : ((Int.tmod (wrap64 (Int.tdiv a0 x6_1)) 10) == a1) = false := beq_eq_false_iff_ne.mpr c10
       have c10b1 : ((Int.tmod (wrap64 (Int.tdiv a0 x6_1)) 10) != a1) = true := bne_iff_ne.mpr c10
       have H' := Aside0.mk H
       clear H
       go_wp2
       repeat (go_quiet (fail); try go_wp2)
       go_roundg kj5
       case measure => have := HK1.out; have := HJ5.out; omega
       case rel => exact ⟨(wrap64 (x5_1 + (wrap64 (x7_5 * x6_1)))), (wrap64 (x6_1 * 10)), z2_1_, z2_1_, H', ⟨by have := HK1.out; have := HJ5.out; omega⟩, by repeat (first | exact Drawn0.refl _ | apply Drawn0.step)⟩
   rw [if_neg c3] at H
   have c3b0 : decide (x6_1 ≤ a0) = false := decide_eq_false c3
   clear c3
   obtain rfl := Option.some.inj H
   go_wp2
   repeat (go_quiet (fail); try go_wp2)
   go_ret
   exact ⟨by first | rfl | (simp; done) | (simp [*]; done), by repeat (first | exact Drawn0.refl _ | apply Drawn0.step)⟩

/-! ### spec_DigitCounts: function 8 -/
def spec_DigitCounts.l0 : Nat → Int → List Int → Int → Option (List Int × Bool)
 | 0, _, _, _ => none
 | k + 1, x0, x4, x5 => if x5 ≤ 9 then ((spec_diCount.f k x0 x5).bind fun t164 => (if x4.length < 17592186044416 then (spec_DigitCounts.l0 k x0 (x4 ++ [t164]) (wrap64 (x5 + 1))) else (none))) else (some (x4, true))
def spec_DigitCounts.f (k : Nat) (a0 : Int) : Option (List Int × Bool) := (spec_diGood.f a0).bind fun t163 => (if t163 = true then (spec_DigitCounts.l0 k a0 ([] : List Int) 0) else (some (([] : List Int), false)))
theorem spec_DigitCounts.mono_l : ∀ k, (∀ y0 y1 y2, LeO (spec_DigitCounts.l0 k y0 y1 y2) (spec_DigitCounts.l0 (k + 1) y0 y1 y2))
 | 0 => fun _ _ _ r h => by simp [spec_DigitCounts.l0] at h
 | k + 1 => by
  have ih0 := spec_DigitCounts.mono_l k
  intro y0 y1 y2
  unfold spec_DigitCounts.l0
  repeat' first
  | (with_reducible exact ih0 _ _ _)
  | (with_reducible exact spec_diCount.mono _ _ _)
  | (with_reducible exact LeO.refl _)
  | (with_reducible exact LeO.none _)
  | (with_reducible refine LeO.ite ?_ ?_)
  | (with_reducible refine LeO.bind ?_ (fun _ => ?_))
  | exact ih0 _ _ _
  | exact spec_diCount.mono _ _ _
  | exact LeO.none _
  | refine LeO.ite ?_ ?_
  | refine LeO.bind ?_ (fun _ => ?_)
theorem spec_DigitCounts.mono : ∀ a0 k, LeO (spec_DigitCounts.f k a0) (spec_DigitCounts.f (k + 1) a0) := by
 intro a0 k
 have ih0 := spec_DigitCounts.mono_l k
 unfold spec_DigitCounts.f
 repeat' first
  | (with_reducible exact ih0 _ _ _)
  | (with_reducible exact spec_diCount.mono _ _ _)
  | (with_reducible exact LeO.refl _)
  | (with_reducible exact LeO.none _)
  | (with_reducible refine LeO.ite ?_ ?_)
  | (with_reducible refine LeO.bind ?_ (fun _ => ?_))
  | exact ih0 _ _ _
  | exact spec_diCount.mono _ _ _
  | exact LeO.none _
  | refine LeO.ite ?_ ?_
  | refine LeO.bind ?_ (fun _ => ?_)
set_option maxHeartbeats 8000000 in
set_option maxRecDepth 100000 in
theorem spec_DigitCounts.calls (k : Nat) (a0 : Int) (r1 : List Int) (r2 : Bool) (w : World) (h : spec_DigitCounts.f k a0 = some (r1, r2)) :
 Calls Tryd.prog 8 #[.int .i64 a0] w fun e w' => ∃ v0_ : Value, e = .returned (.tuple #[v0_, .bool r2]) ∧ Kd.R (Kd.int .i64) 3 w' w.heap.size (fun _ => True) v0_ r1 ∧ Below w.heap.size w w' := by
 have HB := Aside0.mk (Below.refl w.heap.size w)
 have H : ((spec_diGood.f a0).bind fun t163 => (if t163 = true then (spec_DigitCounts.l0 k a0 ([] : List Int) 0) else (some (([] : List Int), false)))) = some (r1, r2) := h
 clear h
 replace H := Option.bind_eq_some_iff.mp H
 obtain ⟨t163, A20, H⟩ := H
 have A2 := Aside0.mk A20
 clear A20
 by_cases c3 : t163 = true
 · subst c3
   have H1 : (spec_DigitCounts.l0 k a0 ([] : List Int) 0) = some (r1, r2) := by rw [if_pos rfl] at H; exact H
   clear H
   have H := H1
   clear H1
   have H' := Aside0.mk H
   clear H
   go_enter Tryd.func8, Tryd.ntmps8
   go_wp2_with (first | ((with_reducible refine gate_callee (f := 36) rfl ?_); refine goesL_ (some 7) rfl rfl Tryd.func36 (by kernel_rfl) rfl #[.int .i64 a0] rfl z2_0_ ?_; (with_reducible refine (spec_diGood.calls a0 true _ A2.out).mono ?_); rintro e w' ⟨rfl, ⟨nd, rfl⟩⟩; refine ⟨_, rfl, ?_⟩))
   go_loopg [4, 5] k (fun kq v4 v5 w' => ∃ (x4_1 : List Int) (x5_1 : Int), v5 = .int .i64 x5_1 ∧ Aside0 (spec_DigitCounts.l0 kq a0 x4_1 x5_1 = some (r1, r2)) ∧ Aside0 (kq ≤ k) ∧ Aside0 (Kd.R (Kd.int .i64) 3 w' w.heap.size (fun _ => True) v4 x4_1) ∧ Aside0 (Below w.heap.size w w'))
   case atStart => exact ⟨(([] : List Int)), (0), z2_1_, H', ⟨Nat.le_refl _⟩, ⟨by first | exact Kd.R_nil _ _ _ _ _ | exact Kd.N_nil _ _ _ _ _ | exact Kd.V_nil _ _ _ _ _ | exact Kd.Q_nil _ _ _ _ _ | exact Kd.S_nil _ _ _ _ _⟩, ⟨by repeat (first | (with_reducible first | exact HB.out | apply below_alloc | apply pw_below_drewN | apply below_drew1) | exact HB.out)⟩⟩
   case round =>
    clear H'
    (try clear p2);(try clear c3)
    obtain ⟨x4_1, x5_1, rfl, HA, HK1, HO_4, HB⟩ := hrel
    cases gk with
    | zero => exact absurd HA.out (by simp [spec_DigitCounts.l0])
    | succ k1 =>
     have H := HA.out
     clear HA
     simp only [spec_DigitCounts.l0] at H
     by_cases c4 : x5_1 ≤ 9
     · rw [if_pos c4] at H
       have c4b0 : decide (x5_1 ≤ 9) = true := decide_eq_true c4
       clear c4
       replace H := Option.bind_eq_some_iff.mp H
       obtain ⟨t164, A50, H⟩ := H
       have A5 := Aside0.mk A50
       clear A50
       by_cases c6 : x4_1.length < 17592186044416
       rotate_left
       · exact none_ (if_neg c6) H
       rw [if_pos c6] at H
       have LMc6 := Aside0.mk c6
       clear c6
       obtain ⟨y165, hy165⟩ : ∃ y_ : List Int, y_ = (x4_1 ++ [t164]) := ⟨_, rfl⟩
       replace H : (spec_DigitCounts.l0 k1 a0 y165 (wrap64 (x5_1 + 1))) = some (r1, r2) := by first | (rw [hy165]; with_reducible exact H) | (have H2_ := (Option.bind_some _ _).symm.trans H; rw [hy165]; with_reducible exact H2_) | (have H2_ := (Option.bind_some _ _).symm.trans H; with_reducible exact H2_) | with_reducible exact H | (rw [hy165]; exact H) | exact H
       have Ny165 := Aside0.mk hy165
       clear hy165
       have H' := Aside0.mk H
       clear H
       go_wp2_with (first | ((with_reducible refine gate_callee (f := 37) rfl ?_); refine goesL_ (some 16) rfl rfl Tryd.func37 (by kernel_rfl) rfl #[.int .i64 a0, .int .i64 x5_1] rfl z2_0_ ?_; (with_reducible refine (spec_diCount.calls k1 a0 x5_1 t164 _ A5.out).mono ?_); rintro e w' ⟨rfl, ⟨nd, rfl⟩⟩; refine ⟨_, rfl, ?_⟩) | ((with_reducible refine gate_builtin (b := .append) (xs := #[.tmp 13, .tmp 17]) rfl ?_); at_builtin; refine Kd.R_append (Kd.int .i64) (w0 := w) w.heap.size rfl (.tmp 13) (.tmp 17) 25 3 (.int .i64 0) 8 rfl Tryd.underlying25 info3 rfl (by decide) (by omega) u4 x4_1 t164 [.int .i64 t164] (fun _ => True) (fun _ => False) rfl rfl ?aP (fun _ hk => hk.elim) ?aF ?aO ?aB ?aS ?aL ?_; (case aP => exact rfl); (case aB => exact z2_2_); (case aF => exact (fun _ _ => trivial)); (case aO => exact (by (with_reducible repeat (first | apply Kd.R_alloc | apply Kd.R_drewN | apply Kd.R_drew)); exact HO_4.out)); (case aS => exact (below_size z2_2_)); (case aL => have := LMc6.out; omega); intro v166 w7 ho hb hg hat; rw [← Ny165.out] at ho; have n0_ := Aside0.mk (hb); have n1_ := Aside0.mk (ho); clear HB; clear HO_4; have HB := n0_; have HO167 := n1_; clear n0_ n1_; clear ho hb hg hat))
       go_roundg k1
       case measure => have := HK1.out; omega
       case rel => exact ⟨(y165), (wrap64 (x5_1 + 1)), z2_1_, H', ⟨by have := HK1.out; omega⟩, ⟨by (with_reducible repeat (first | apply Kd.R_alloc | apply Kd.R_drewN | apply Kd.R_drew)); exact HO167.out⟩, ⟨by repeat (first | (with_reducible first | exact HB.out | apply below_alloc | apply pw_below_drewN | apply below_drew1) | exact HB.out)⟩⟩
     rw [if_neg c4] at H
     have c4b0 : decide (x5_1 ≤ 9) = false := decide_eq_false c4
     clear c4
     simp only [Option.some.injEq, Prod.mk.injEq] at H
     obtain ⟨rfl, rfl⟩ := H
     go_wp2
     go_ret2
     exact ⟨_, by first | rfl | (simp [errW_none, errW_some] <;> rfl) | (simp [*, errW_none, errW_some] <;> rfl), by (with_reducible repeat (first | apply Kd.R_alloc | apply Kd.R_drewN | apply Kd.R_drew)); exact HO_4.out, by repeat (first | (with_reducible first | exact HB.out | apply below_alloc | apply pw_below_drewN | apply below_drew1) | exact HB.out)⟩
 replace c3 := Bool.eq_false_iff.mpr c3
 subst c3
 have H1 : (some (([] : List Int), false)) = some (r1, r2) := by rw [if_neg (show ¬ (false = true) by decide)] at H; exact H
 clear H
 have H := H1
 clear H1
 simp only [Option.some.injEq, Prod.mk.injEq] at H
 obtain ⟨rfl, rfl⟩ := H
 go_enter Tryd.func8, Tryd.ntmps8
 go_wp2_with (first | ((with_reducible refine gate_callee (f := 36) rfl ?_); refine goesL_ (some 7) rfl rfl Tryd.func36 (by kernel_rfl) rfl #[.int .i64 a0] rfl z2_0_ ?_; (with_reducible refine (spec_diGood.calls a0 false _ A2.out).mono ?_); rintro e w' ⟨rfl, ⟨nd, rfl⟩⟩; refine ⟨_, rfl, ?_⟩))
 go_ret2
 exact ⟨_, by first | rfl | (simp [errW_none, errW_some] <;> rfl) | (simp [*, errW_none, errW_some] <;> rfl), by first | exact Kd.R_nil _ _ _ _ _ | exact Kd.N_nil _ _ _ _ _ | exact Kd.V_nil _ _ _ _ _ | exact Kd.Q_nil _ _ _ _ _ | exact Kd.S_nil _ _ _ _ _, by repeat (first | (with_reducible first | exact HB.out | apply below_alloc | apply pw_below_drewN | apply below_drew1) | exact HB.out)⟩

/-! ### impl_written: function 38 -/
def impl_written.l0 : Nat → Int → Int → Int → Int → Option (Int)
 | 0, _, _, _, _ => none
 | k + 1, x0, x3, x4, x5 => if x5 ≤ x0 then (impl_written.l0 k x0 (wrap64 (x3 + (wrap64 (x4 * (wrap64 ((wrap64 ((mn x0 (wrap64 ((wrap64 (10 * x5)) - 1))) - x5)) + 1)))))) (wrap64 (x4 + 1)) (wrap64 (x5 * 10))) else (some x3)
def impl_written.f (k : Nat) (a0 : Int) : Option (Int) := impl_written.l0 k a0 0 1 1
theorem impl_written.mono_l : ∀ k, (∀ y0 y1 y2 y3, LeO (impl_written.l0 k y0 y1 y2 y3) (impl_written.l0 (k + 1) y0 y1 y2 y3))
 | 0 => fun _ _ _ _ r h => by simp [impl_written.l0] at h
 | k + 1 => by
  have ih0 := impl_written.mono_l k
  intro y0 y1 y2 y3
  unfold impl_written.l0
  repeat' first
  | (with_reducible exact ih0 _ _ _ _)
  | (with_reducible exact LeO.refl _)
  | (with_reducible exact LeO.none _)
  | (with_reducible refine LeO.ite ?_ ?_)
  | (with_reducible refine LeO.bind ?_ (fun _ => ?_))
  | exact ih0 _ _ _ _
  | exact LeO.none _
  | refine LeO.ite ?_ ?_
  | refine LeO.bind ?_ (fun _ => ?_)
theorem impl_written.mono : ∀ a0 k, LeO (impl_written.f k a0) (impl_written.f (k + 1) a0) := by
 intro a0 k
 have ih0 := impl_written.mono_l k
 unfold impl_written.f
 repeat' first
  | (with_reducible exact ih0 _ _ _ _)
  | (with_reducible exact LeO.refl _)
  | (with_reducible exact LeO.none _)
  | (with_reducible refine LeO.ite ?_ ?_)
  | (with_reducible refine LeO.bind ?_ (fun _ => ?_))
  | exact ih0 _ _ _ _
  | exact LeO.none _
  | refine LeO.ite ?_ ?_
  | refine LeO.bind ?_ (fun _ => ?_)
set_option maxHeartbeats 8000000 in
set_option maxRecDepth 100000 in
theorem impl_written.calls (k : Nat) (a0 : Int) (r : Int) (w : World) (h : impl_written.f k a0 = some r) :
 Calls Tryd.prog 38 #[.int .i64 a0] w fun e w' => e = .returned (.int .i64 r) ∧ Below w.heap.size w w' := by
 have HB := Aside0.mk (Below.refl w.heap.size w)
 have H : (impl_written.l0 k a0 0 1 1) = some r := h
 clear h
 have H' := Aside0.mk H
 clear H
 go_enter Tryd.func38, Tryd.ntmps38
 go_wp2
 go_loopg [3, 4, 5] k (fun kq v3 v4 v5 w' => ∃ (x3_1 : Int) (x4_1 : Int) (x5_1 : Int), v3 = .int .i64 x3_1 ∧ v4 = .int .i64 x4_1 ∧ v5 = .int .i64 x5_1 ∧ Aside0 (impl_written.l0 kq a0 x3_1 x4_1 x5_1 = some r) ∧ Aside0 (kq ≤ k) ∧ Aside0 (Below w.heap.size w w'))
 case atStart => exact ⟨(0), (1), (1), z2_1_, z2_1_, z2_1_, H', ⟨Nat.le_refl _⟩, ⟨by repeat (first | (with_reducible first | exact HB.out | apply below_alloc | apply pw_below_drewN | apply below_drew1) | exact HB.out)⟩⟩
 case round =>
  clear H'
  obtain ⟨x3_1, x4_1, x5_1, rfl, rfl, rfl, HA, HK1, HB⟩ := hrel
  cases gk with
  | zero => exact absurd HA.out (by simp [impl_written.l0])
  | succ k1 =>
   have H := HA.out
   clear HA
   simp only [impl_written.l0] at H
   by_cases c2 : x5_1 ≤ a0
   · rw [if_pos c2] at H
     have c2b0 : decide (x5_1 ≤ a0) = true := decide_eq_true c2
     clear c2
     obtain ⟨ji3, hji3⟩ : ∃ j_ : Int, (mn a0 (wrap64 ((wrap64 (10 * x5_1)) - 1))) = j_ := ⟨_, rfl⟩
     replace H : (impl_written.l0 k1 a0 (wrap64 (x3_1 + (wrap64 (x4_1 * (wrap64 ((wrap64 ((ji3) - x5_1)) + 1)))))) (wrap64 (x4_1 + 1)) (wrap64 (x5_1 * 10))) = some r := by first | (rw [hji3] at H; exact H) | (simp only [hji3] at H ⊢; exact H)
     have hji3_ : (if (wrap64 ((wrap64 (10 * x5_1)) - 1)) < a0 then (wrap64 ((wrap64 (10 * x5_1)) - 1)) else a0) = ji3 := hji3
     have H' := Aside0.mk H
     clear H
     go_wp2
     go_roundg k1
     case measure => have := HK1.out; omega
     case rel => exact ⟨(wrap64 (x3_1 + (wrap64 (x4_1 * (wrap64 ((wrap64 ((ji3) - x5_1)) + 1)))))), (wrap64 (x4_1 + 1)), (wrap64 (x5_1 * 10)), (by first | rfl | (simp; done) | (simp only [← hji3] <;> (first | rfl | simp)) | (simp [*]; done)), z2_1_, z2_1_, H', ⟨by have := HK1.out; omega⟩, ⟨by repeat (first | (with_reducible first | exact HB.out | apply below_alloc | apply pw_below_drewN | apply below_drew1) | exact HB.out)⟩⟩
   rw [if_neg c2] at H
   have c2b0 : decide (x5_1 ≤ a0) = false := decide_eq_false c2
   clear c2
   obtain rfl := Option.some.inj H
   go_wp2
   go_ret
   exact ⟨by first | rfl | (simp [errW_none, errW_some] <;> rfl) | (simp [*, errW_none, errW_some] <;> rfl), by repeat (first | (with_reducible first | exact HB.out | apply below_alloc | apply pw_below_drewN | apply below_drew1) | exact HB.out)⟩

/-! ### impl_DigitsWritten: function 9 -/
def impl_DigitsWritten.f (k : Nat) (a0 : Int) : Option (Int × Bool) := (impl_isWritten.f a0).bind fun t168 => (if t168 = true then ((impl_written.f k a0).bind fun t169 => (some (t169, true))) else (some (0, false)))
theorem impl_DigitsWritten.mono : ∀ a0 k, LeO (impl_DigitsWritten.f k a0) (impl_DigitsWritten.f (k + 1) a0) := by
 intro a0 k
 unfold impl_DigitsWritten.f
 repeat' first
  | (with_reducible exact impl_written.mono _ _)
  | (with_reducible exact LeO.refl _)
  | (with_reducible exact LeO.none _)
  | (with_reducible refine LeO.ite ?_ ?_)
  | (with_reducible refine LeO.bind ?_ (fun _ => ?_))
  | exact impl_written.mono _ _
  | exact LeO.none _
  | refine LeO.ite ?_ ?_
  | refine LeO.bind ?_ (fun _ => ?_)
set_option maxHeartbeats 8000000 in
set_option maxRecDepth 100000 in
theorem impl_DigitsWritten.calls (k : Nat) (a0 : Int) (r1 : Int) (r2 : Bool) (w : World) (h : impl_DigitsWritten.f k a0 = some (r1, r2)) :
 Calls Tryd.prog 9 #[.int .i64 a0] w fun e w' => e = .returned (.tuple #[.int .i64 r1, .bool r2]) ∧ Below w.heap.size w w' := by
 have HB := Aside0.mk (Below.refl w.heap.size w)
 have H : ((impl_isWritten.f a0).bind fun t168 => (if t168 = true then ((impl_written.f k a0).bind fun t169 => (some (t169, true))) else (some (0, false)))) = some (r1, r2) := h
 clear h
 replace H := Option.bind_eq_some_iff.mp H
 obtain ⟨t168, A20, H⟩ := H
 have A2 := Aside0.mk A20
 clear A20
 by_cases c3 : t168 = true
 · subst c3
   have H1 : ((impl_written.f k a0).bind fun t169 => (some (t169, true))) = some (r1, r2) := by rw [if_pos rfl] at H; exact H
   clear H
   have H := H1
   clear H1
   replace H := Option.bind_eq_some_iff.mp H
   obtain ⟨t169, A40, H⟩ := H
   have A4 := Aside0.mk A40
   clear A40
   simp only [Option.some.injEq, Prod.mk.injEq] at H
   obtain ⟨rfl, rfl⟩ := H
   go_enter Tryd.func9, Tryd.ntmps9
   go_wp2_with (first | ((with_reducible refine gate_callee (f := 34) rfl ?_); refine goesL_ (some 5) rfl rfl Tryd.func34 (by kernel_rfl) rfl #[.int .i64 a0] rfl z2_0_ ?_; (with_reducible refine (impl_isWritten.calls a0 true _ A2.out).mono ?_); rintro e w' ⟨rfl, ⟨nd, rfl⟩⟩; refine ⟨_, rfl, ?_⟩) | ((with_reducible refine gate_callee (f := 38) rfl ?_); refine goesL_ (some 8) rfl rfl Tryd.func38 (by kernel_rfl) rfl #[.int .i64 a0] rfl z2_0_ ?_; (with_reducible refine (impl_written.calls k a0 t169 _ A4.out).mono ?_); rintro e w5 ⟨rfl, hb⟩; refine ⟨_, rfl, ?_⟩; have n0_ := Aside0.mk (below_step z2_2_ hb); clear HB; have HB := n0_; clear n0_; (try clear hb); (try clear hb2); (try clear hk); (try clear hi)))
   go_ret2
   exact ⟨by first | rfl | (simp [errW_none, errW_some] <;> rfl) | (simp [*, errW_none, errW_some] <;> rfl), by repeat (first | (with_reducible first | exact HB.out | apply below_alloc | apply pw_below_drewN | apply below_drew1) | exact HB.out)⟩
 replace c3 := Bool.eq_false_iff.mpr c3
 subst c3
 have H1 : (some (0, false)) = some (r1, r2) := by rw [if_neg (show ¬ (false = true) by decide)] at H; exact H
 clear H
 have H := H1
 clear H1
 simp only [Option.some.injEq, Prod.mk.injEq] at H
 obtain ⟨rfl, rfl⟩ := H
 go_enter Tryd.func9, Tryd.ntmps9
 go_wp2_with (first | ((with_reducible refine gate_callee (f := 34) rfl ?_); refine goesL_ (some 5) rfl rfl Tryd.func34 (by kernel_rfl) rfl #[.int .i64 a0] rfl z2_0_ ?_; (with_reducible refine (impl_isWritten.calls a0 false _ A2.out).mono ?_); rintro e w' ⟨rfl, ⟨nd, rfl⟩⟩; refine ⟨_, rfl, ?_⟩))
 go_ret2
 exact ⟨by first | rfl | (simp [errW_none, errW_some] <;> rfl) | (simp [*, errW_none, errW_some] <;> rfl), by repeat (first | (with_reducible first | exact HB.out | apply below_alloc | apply pw_below_drewN | apply below_drew1) | exact HB.out)⟩

/-! ### spec_l1Least: function 65 -/
def spec_l1Least.f (a0 : Int) (a1 : Int) : Option (Int) := if a0 < a1 then (some a0) else (some a1)
set_option maxHeartbeats 8000000 in
set_option maxRecDepth 100000 in
theorem spec_l1Least.calls (a0 : Int) (a1 : Int) (r : Int) (w : World) (h : spec_l1Least.f a0 a1 = some r) :
 Calls Tryd.prog 65 #[.int .i64 a0, .int .i64 a1] w fun e w' => e = .returned (.int .i64 r) ∧ Drawn0 w w' := by
 have H : (if a0 < a1 then (some a0) else (some a1)) = some r := h
 clear h
 by_cases c3 : a0 < a1
 · rw [if_pos c3] at H
   have c3b0 : decide (a0 < a1) = true := decide_eq_true c3
   clear c3
   obtain rfl := Option.some.inj H
   go_enter Tryd.func65, Tryd.ntmps65
   go_wp2
   go_ret
   exact ⟨by first | rfl | (simp; done) | (simp [*]; done), by repeat (first | exact Drawn0.refl _ | apply Drawn0.step)⟩
 rw [if_neg c3] at H
 have c3b0 : decide (a0 < a1) = false := decide_eq_false c3
 clear c3
 obtain rfl := Option.some.inj H
 go_enter Tryd.func65, Tryd.ntmps65
 go_wp2
 go_ret
 exact ⟨by first | rfl | (simp; done) | (simp [*]; done), by repeat (first | exact Drawn0.refl _ | apply Drawn0.step)⟩

/-! ### spec_diWritten: function 39 -/
def spec_diWritten.l0 : Nat → Int → Int → Int → Int → Option (Int)
 | 0, _, _, _, _ => none
 | k + 1, x0, x3, x4, x5 => if x4 ≤ x0 then ((spec_l1Least.f x0 (wrap64 ((wrap64 (x4 * 10)) - 1))).bind fun t170 => (spec_diWritten.l0 k x0 (wrap64 (x3 + (wrap64 ((wrap64 ((wrap64 (t170 - x4)) + 1)) * x5)))) (wrap64 (x4 * 10)) (wrap64 (x5 + 1)))) else (some x3)
def spec_diWritten.f (k : Nat) (a0 : Int) : Option (Int) := spec_diWritten.l0 k a0 0 1 1
theorem spec_diWritten.mono_l : ∀ k, (∀ y0 y1 y2 y3, LeO (spec_diWritten.l0 k y0 y1 y2 y3) (spec_diWritten.l0 (k + 1) y0 y1 y2 y3))
 | 0 => fun _ _ _ _ r h => by simp [spec_diWritten.l0] at h
 | k + 1 => by
  have ih0 := spec_diWritten.mono_l k
  intro y0 y1 y2 y3
  unfold spec_diWritten.l0
  repeat' first
  | (with_reducible exact ih0 _ _ _ _)
  | (with_reducible exact LeO.refl _)
  | (with_reducible exact LeO.none _)
  | (with_reducible refine LeO.ite ?_ ?_)
  | (with_reducible refine LeO.bind ?_ (fun _ => ?_))
  | exact ih0 _ _ _ _
  | exact LeO.none _
  | refine LeO.ite ?_ ?_
  | refine LeO.bind ?_ (fun _ => ?_)
theorem spec_diWritten.mono : ∀ a0 k, LeO (spec_diWritten.f k a0) (spec_diWritten.f (k + 1) a0) := by
 intro a0 k
 have ih0 := spec_diWritten.mono_l k
 unfold spec_diWritten.f
 repeat' first
  | (with_reducible exact ih0 _ _ _ _)
  | (with_reducible exact LeO.refl _)
  | (with_reducible exact LeO.none _)
  | (with_reducible refine LeO.ite ?_ ?_)
  | (with_reducible refine LeO.bind ?_ (fun _ => ?_))
  | exact ih0 _ _ _ _
  | exact LeO.none _
  | refine LeO.ite ?_ ?_
  | refine LeO.bind ?_ (fun _ => ?_)
set_option maxHeartbeats 8000000 in
set_option maxRecDepth 100000 in
theorem spec_diWritten.calls (k : Nat) (a0 : Int) (r : Int) (w : World) (h : spec_diWritten.f k a0 = some r) :
 Calls Tryd.prog 39 #[.int .i64 a0] w fun e w' => e = .returned (.int .i64 r) ∧ Drawn0 w w' := by
 have H : (spec_diWritten.l0 k a0 0 1 1) = some r := h
 clear h
 have H' := Aside0.mk H
 clear H
 go_enter Tryd.func39, Tryd.ntmps39
 go_wp2
 go_loopg [3, 4, 5] k (fun kq v3 v4 v5 w' => ∃ (x3_1 : Int) (x4_1 : Int) (x5_1 : Int), v3 = .int .i64 x3_1 ∧ v4 = .int .i64 x4_1 ∧ v5 = .int .i64 x5_1 ∧ Aside0 (spec_diWritten.l0 kq a0 x3_1 x4_1 x5_1 = some r) ∧ Aside0 (kq ≤ k) ∧ Drawn0 w w')
 case atStart => exact ⟨(0), (1), (1), z2_1_, z2_1_, z2_1_, H', ⟨Nat.le_refl _⟩, by repeat (first | exact Drawn0.refl _ | apply Drawn0.step)⟩
 case round =>
  clear H'
  obtain ⟨x3_1, x4_1, x5_1, rfl, rfl, rfl, HA, HK1, ⟨m1, rfl⟩⟩ := hrel
  cases gk with
  | zero => exact absurd HA.out (by simp [spec_diWritten.l0])
  | succ k1 =>
   have H := HA.out
   clear HA
   simp only [spec_diWritten.l0] at H
   by_cases c2 : x4_1 ≤ a0
   · rw [if_pos c2] at H
     have c2b0 : decide (x4_1 ≤ a0) = true := decide_eq_true c2
     clear c2
     replace H := Option.bind_eq_some_iff.mp H
     obtain ⟨t170, A30, H⟩ := H
     have A3 := Aside0.mk A30
     clear A30
     have H' := Aside0.mk H
     clear H
     go_wp2_with (first | ((with_reducible refine gate_callee (f := 65) rfl ?_); refine goesL_ (some 16) rfl rfl Tryd.func65 (by kernel_rfl) rfl #[.int .i64 a0, .int .i64 (wrap64 ((wrap64 (x4_1 * 10)) - 1))] rfl z2_0_ ?_; (with_reducible refine (spec_l1Least.calls a0 (wrap64 ((wrap64 (x4_1 * 10)) - 1)) t170 _ A3.out).mono ?_); rintro e w' ⟨rfl, ⟨nd, rfl⟩⟩; refine ⟨_, rfl, ?_⟩))
     go_roundg k1
     case measure => have := HK1.out; omega
     case rel => exact ⟨(wrap64 (x3_1 + (wrap64 ((wrap64 ((wrap64 (t170 - x4_1)) + 1)) * x5_1)))), (wrap64 (x4_1 * 10)), (wrap64 (x5_1 + 1)), z2_1_, z2_1_, z2_1_, H', ⟨by have := HK1.out; omega⟩, by repeat (first | exact Drawn0.refl _ | apply Drawn0.step)⟩
   rw [if_neg c2] at H
   have c2b0 : decide (x4_1 ≤ a0) = false := decide_eq_false c2
   clear c2
   obtain rfl := Option.some.inj H
   go_wp2
   go_ret
   exact ⟨by first | rfl | (simp; done) | (simp [*]; done), by repeat (first | exact Drawn0.refl _ | apply Drawn0.step)⟩

/-! ### spec_DigitsWritten: function 10 -/
def spec_DigitsWritten.f (k : Nat) (a0 : Int) : Option (Int × Bool) := (spec_diGood.f a0).bind fun t171 => (if t171 = true then ((spec_diWritten.f k a0).bind fun t172 => (some (t172, true))) else (some (0, false)))
theorem spec_DigitsWritten.mono : ∀ a0 k, LeO (spec_DigitsWritten.f k a0) (spec_DigitsWritten.f (k + 1) a0) := by
 intro a0 k
 unfold spec_DigitsWritten.f
 repeat' first
  | (with_reducible exact spec_diWritten.mono _ _)
  | (with_reducible exact LeO.refl _)
  | (with_reducible exact LeO.none _)
  | (with_reducible refine LeO.ite ?_ ?_)
  | (with_reducible refine LeO.bind ?_ (fun _ => ?_))
  | exact spec_diWritten.mono _ _
  | exact LeO.none _
  | refine LeO.ite ?_ ?_
  | refine LeO.bind ?_ (fun _ => ?_)
set_option maxHeartbeats 8000000 in
set_option maxRecDepth 100000 in
theorem spec_DigitsWritten.calls (k : Nat) (a0 : Int) (r1 : Int) (r2 : Bool) (w : World) (h : spec_DigitsWritten.f k a0 = some (r1, r2)) :
 Calls Tryd.prog 10 #[.int .i64 a0] w fun e w' => e = .returned (.tuple #[.int .i64 r1, .bool r2]) ∧ Drawn0 w w' := by
 have H : ((spec_diGood.f a0).bind fun t171 => (if t171 = true then ((spec_diWritten.f k a0).bind fun t172 => (some (t172, true))) else (some (0, false)))) = some (r1, r2) := h
 clear h
 replace H := Option.bind_eq_some_iff.mp H
 obtain ⟨t171, A20, H⟩ := H
 have A2 := Aside0.mk A20
 clear A20
 by_cases c3 : t171 = true
 · subst c3
   have H1 : ((spec_diWritten.f k a0).bind fun t172 => (some (t172, true))) = some (r1, r2) := by rw [if_pos rfl] at H; exact H
   clear H
   have H := H1
   clear H1
   replace H := Option.bind_eq_some_iff.mp H
   obtain ⟨t172, A40, H⟩ := H
   have A4 := Aside0.mk A40
   clear A40
   simp only [Option.some.injEq, Prod.mk.injEq] at H
   obtain ⟨rfl, rfl⟩ := H
   go_enter Tryd.func10, Tryd.ntmps10
   go_wp2_with (first | ((with_reducible refine gate_callee (f := 36) rfl ?_); refine goesL_ (some 5) rfl rfl Tryd.func36 (by kernel_rfl) rfl #[.int .i64 a0] rfl z2_0_ ?_; (with_reducible refine (spec_diGood.calls a0 true _ A2.out).mono ?_); rintro e w' ⟨rfl, ⟨nd, rfl⟩⟩; refine ⟨_, rfl, ?_⟩) | ((with_reducible refine gate_callee (f := 39) rfl ?_); refine goesL_ (some 8) rfl rfl Tryd.func39 (by kernel_rfl) rfl #[.int .i64 a0] rfl z2_0_ ?_; (with_reducible refine (spec_diWritten.calls k a0 t172 _ A4.out).mono ?_); rintro e w' ⟨rfl, ⟨nd, rfl⟩⟩; refine ⟨_, rfl, ?_⟩))
   go_ret2
   exact ⟨by first | rfl | (simp; done) | (simp [*]; done), by repeat (first | exact Drawn0.refl _ | apply Drawn0.step)⟩
 replace c3 := Bool.eq_false_iff.mpr c3
 subst c3
 have H1 : (some (0, false)) = some (r1, r2) := by rw [if_neg (show ¬ (false = true) by decide)] at H; exact H
 clear H
 have H := H1
 clear H1
 simp only [Option.some.injEq, Prod.mk.injEq] at H
 obtain ⟨rfl, rfl⟩ := H
 go_enter Tryd.func10, Tryd.ntmps10
 go_wp2_with (first | ((with_reducible refine gate_callee (f := 36) rfl ?_); refine goesL_ (some 5) rfl rfl Tryd.func36 (by kernel_rfl) rfl #[.int .i64 a0] rfl z2_0_ ?_; (with_reducible refine (spec_diGood.calls a0 false _ A2.out).mono ?_); rintro e w' ⟨rfl, ⟨nd, rfl⟩⟩; refine ⟨_, rfl, ?_⟩))
 go_ret2
 exact ⟨by first | rfl | (simp; done) | (simp [*]; done), by repeat (first | exact Drawn0.refl _ | apply Drawn0.step)⟩

/-! ### impl_SumOfDigitsUpTo: function 11 -/
def impl_SumOfDigitsUpTo.l0 : Nat → Bool → Int → List Int → Int → Int → Option (Int × Bool)
 | 0, _, _, _, _, _ => none
 | k + 1, x5, x6, x14, x15, x16 => if x16 < x15 then (if 0 ≤ x16 then (if x16 < (x14.length : Int) then (impl_SumOfDigitsUpTo.l0 k x5 (wrap64 (x6 + (wrap64 (x16 * (rd x14 x16))))) x14 x15 (wrap64 (x16 + 1))) else (none)) else (none)) else (some (x6, x5))
def impl_SumOfDigitsUpTo.f (k : Nat) (a0 : Int) : Option (Int × Bool) := (impl_DigitCounts.f k a0).bind fun bt173 => (impl_SumOfDigitsUpTo.l0 k bt173.2 0 bt173.1 (bt173.1.length : Int) 0)
theorem impl_SumOfDigitsUpTo.mono_l : ∀ k, (∀ y0 y1 y2 y3 y4, LeO (impl_SumOfDigitsUpTo.l0 k y0 y1 y2 y3 y4) (impl_SumOfDigitsUpTo.l0 (k + 1) y0 y1 y2 y3 y4))
 | 0 => fun _ _ _ _ _ r h => by simp [impl_SumOfDigitsUpTo.l0] at h
 | k + 1 => by
  have ih0 := impl_SumOfDigitsUpTo.mono_l k
  intro y0 y1 y2 y3 y4
  unfold impl_SumOfDigitsUpTo.l0
  repeat' first
  | (with_reducible exact ih0 _ _ _ _ _)
  | (with_reducible exact impl_DigitCounts.mono _ _)
  | (with_reducible exact LeO.refl _)
  | (with_reducible exact LeO.none _)
  | (with_reducible refine LeO.ite ?_ ?_)
  | (with_reducible refine LeO.bind ?_ (fun _ => ?_))
  | exact ih0 _ _ _ _ _
  | exact impl_DigitCounts.mono _ _
  | exact LeO.none _
  | refine LeO.ite ?_ ?_
  | refine LeO.bind ?_ (fun _ => ?_)
theorem impl_SumOfDigitsUpTo.mono : ∀ a0 k, LeO (impl_SumOfDigitsUpTo.f k a0) (impl_SumOfDigitsUpTo.f (k + 1) a0) := by
 intro a0 k
 have ih0 := impl_SumOfDigitsUpTo.mono_l k
 unfold impl_SumOfDigitsUpTo.f
 repeat' first
  | (with_reducible exact ih0 _ _ _ _ _)
  | (with_reducible exact impl_DigitCounts.mono _ _)
  | (with_reducible exact LeO.refl _)
  | (with_reducible exact LeO.none _)
  | (with_reducible refine LeO.ite ?_ ?_)
  | (with_reducible refine LeO.bind ?_ (fun _ => ?_))
  | exact ih0 _ _ _ _ _
  | exact impl_DigitCounts.mono _ _
  | exact LeO.none _
  | refine LeO.ite ?_ ?_
  | refine LeO.bind ?_ (fun _ => ?_)
set_option maxHeartbeats 8000000 in
set_option maxRecDepth 100000 in
theorem impl_SumOfDigitsUpTo.calls (k : Nat) (a0 : Int) (r1 : Int) (r2 : Bool) (w : World) (h : impl_SumOfDigitsUpTo.f k a0 = some (r1, r2)) :
 Calls Tryd.prog 11 #[.int .i64 a0] w fun e w' => e = .returned (.tuple #[.int .i64 r1, .bool r2]) ∧ Below w.heap.size w w' := by
 have HB := Aside0.mk (Below.refl w.heap.size w)
 have H : ((impl_DigitCounts.f k a0).bind fun bt173 => (impl_SumOfDigitsUpTo.l0 k bt173.2 0 bt173.1 (bt173.1.length : Int) 0)) = some (r1, r2) := h
 clear h
 replace H := Option.bind_eq_some_iff.mp H
 obtain ⟨⟨t173, t174⟩, A20, H⟩ := H
 dsimp only at H
 have A2 := Aside0.mk A20
 clear A20
 have H' := Aside0.mk H
 clear H
 go_enter Tryd.func11, Tryd.ntmps11
 go_wp2_with (first | ((with_reducible refine gate_callee (f := 7) rfl ?_); refine goesL_ (some 11) rfl rfl Tryd.func7 (by kernel_rfl) rfl #[.int .i64 a0] rfl z2_0_ ?_; (with_reducible refine (impl_DigitCounts.calls k a0 t173 t174 _ A2.out).mono ?_); rintro e w3 ⟨v175, rfl, ho0, hb⟩; refine ⟨_, rfl, ?_⟩; have n0_ := Aside0.mk (Kd.R_lower ho0 (below_size z2_2_)); have n1_ := Aside0.mk (below_step z2_2_ hb); clear HB; have HO176 := n0_; have HB := n1_; clear n0_ n1_; (try clear hb); (try clear hb2); (try clear hk); (try clear hi); (try clear ho0); obtain ⟨Ao4, co4, eo4⟩ := Kd.R_slice HO176.out; subst eo4))
 go_loopg [6, 16] k (fun kq v6 v16 w' => ∃ (x6_1 : Int) (x16_1 : Int), v6 = .int .i64 x6_1 ∧ v16 = .int .i64 x16_1 ∧ Aside0 (impl_SumOfDigitsUpTo.l0 kq t174 x6_1 t173 (t173.length : Int) x16_1 = some (r1, r2)) ∧ Aside0 (kq ≤ k) ∧ Aside0 (Kd.R (Kd.int .i64) 3 w' w.heap.size (fun _ => True) (.slice Ao4 t173.length co4) t173) ∧ Aside0 (Below w.heap.size w w'))
 case atStart => exact ⟨(0), (0), z2_1_, z2_1_, H', ⟨Nat.le_refl _⟩, ⟨by (with_reducible repeat (first | apply Kd.R_alloc | apply Kd.R_drewN | apply Kd.R_drew)); exact HO176.out⟩, ⟨by repeat (first | (with_reducible first | exact HB.out | apply below_alloc | apply pw_below_drewN | apply below_drew1) | exact HB.out)⟩⟩
 case round =>
  clear H'
  (try clear c1);(try clear p2)
  obtain ⟨x6_1, x16_1, rfl, rfl, HA, HK1, HO_14, HB⟩ := hrel
  cases gk with
  | zero => exact absurd HA.out (by simp [impl_SumOfDigitsUpTo.l0])
  | succ k1 =>
   have H := HA.out
   clear HA
   simp only [impl_SumOfDigitsUpTo.l0] at H
   by_cases c5 : x16_1 < (t173.length : Int)
   · rw [if_pos c5] at H
     have c5b0 : decide (x16_1 < (t173.length : Int)) = true := decide_eq_true c5
     clear c5
     by_cases c6 : 0 ≤ x16_1
     rotate_left
     · exact none_ (if_neg c6) H
     rw [if_pos c6] at H
     have c6b0 : decide (0 ≤ x16_1) = true := decide_eq_true c6
     clear c6
     by_cases c7 : x16_1 < (t173.length : Int)
     rotate_left
     · exact none_ (if_neg c7) H
     rw [if_pos c7] at H
     have c7b0 : decide (x16_1 < (t173.length : Int)) = true := decide_eq_true c7
     clear c7
     have H' := Aside0.mk H
     clear H
     have p177 : 0 ≤ (x16_1 : Int) := of_decide_eq_true (by first | (with_reducible assumption) | assumption)
     have q177 : x16_1 < (t173.length : Int) := of_decide_eq_true (by first | (with_reducible assumption) | assumption)
     obtain ⟨ad177, e177, hx177_0⟩ := Kd.at_int (Kd.R_reads' HO_14.out).2.2 x16_1 p177 q177
     cases e177
     replace p177 := eq_true p177
     replace q177 := eq_true q177
     go_wp2
     go_roundg k1
     case measure => have := HK1.out; omega
     case rel => exact ⟨(wrap64 (x6_1 + (wrap64 (x16_1 * (rd t173 x16_1))))), (wrap64 (x16_1 + 1)), z2_1_, z2_1_, H', ⟨by have := HK1.out; omega⟩, ⟨by (with_reducible repeat (first | apply Kd.R_alloc | apply Kd.R_drewN | apply Kd.R_drew)); exact HO_14.out⟩, ⟨by repeat (first | (with_reducible first | exact HB.out | apply below_alloc | apply pw_below_drewN | apply below_drew1) | exact HB.out)⟩⟩
   rw [if_neg c5] at H
   have c5b0 : decide (x16_1 < (t173.length : Int)) = false := decide_eq_false c5
   clear c5
   simp only [Option.some.injEq, Prod.mk.injEq] at H
   obtain ⟨rfl, rfl⟩ := H
   go_wp2
   go_ret2
   exact ⟨by first | rfl | (simp [errW_none, errW_some] <;> rfl) | (simp [*, errW_none, errW_some] <;> rfl), by repeat (first | (with_reducible first | exact HB.out | apply below_alloc | apply pw_below_drewN | apply below_drew1) | exact HB.out)⟩

/-! ### spec_SumOfDigitsUpTo: function 12 -/
def spec_SumOfDigitsUpTo.l0 : Nat → Int → Int → Int → Option (Int × Bool)
 | 0, _, _, _ => none
 | k + 1, x0, x4, x5 => if x5 ≤ 9 then ((spec_diCount.f k x0 x5).bind fun t179 => (spec_SumOfDigitsUpTo.l0 k x0 (wrap64 (x4 + (wrap64 (x5 * t179)))) (wrap64 (x5 + 1)))) else (some (x4, true))
def spec_SumOfDigitsUpTo.f (k : Nat) (a0 : Int) : Option (Int × Bool) := (spec_diGood.f a0).bind fun t178 => (if t178 = true then (spec_SumOfDigitsUpTo.l0 k a0 0 1) else (some (0, false)))
theorem spec_SumOfDigitsUpTo.mono_l : ∀ k, (∀ y0 y1 y2, LeO (spec_SumOfDigitsUpTo.l0 k y0 y1 y2) (spec_SumOfDigitsUpTo.l0 (k + 1) y0 y1 y2))
 | 0 => fun _ _ _ r h => by simp [spec_SumOfDigitsUpTo.l0] at h
 | k + 1 => by
  have ih0 := spec_SumOfDigitsUpTo.mono_l k
  intro y0 y1 y2
  unfold spec_SumOfDigitsUpTo.l0
  repeat' first
  | (with_reducible exact ih0 _ _ _)
  | (with_reducible exact spec_diCount.mono _ _ _)
  | (with_reducible exact LeO.refl _)
  | (with_reducible exact LeO.none _)
  | (with_reducible refine LeO.ite ?_ ?_)
  | (with_reducible refine LeO.bind ?_ (fun _ => ?_))
  | exact ih0 _ _ _
  | exact spec_diCount.mono _ _ _
  | exact LeO.none _
  | refine LeO.ite ?_ ?_
  | refine LeO.bind ?_ (fun _ => ?_)
theorem spec_SumOfDigitsUpTo.mono : ∀ a0 k, LeO (spec_SumOfDigitsUpTo.f k a0) (spec_SumOfDigitsUpTo.f (k + 1) a0) := by
 intro a0 k
 have ih0 := spec_SumOfDigitsUpTo.mono_l k
 unfold spec_SumOfDigitsUpTo.f
 repeat' first
  | (with_reducible exact ih0 _ _ _)
  | (with_reducible exact spec_diCount.mono _ _ _)
  | (with_reducible exact LeO.refl _)
  | (with_reducible exact LeO.none _)
  | (with_reducible refine LeO.ite ?_ ?_)
  | (with_reducible refine LeO.bind ?_ (fun _ => ?_))
  | exact ih0 _ _ _
  | exact spec_diCount.mono _ _ _
  | exact LeO.none _
  | refine LeO.ite ?_ ?_
  | refine LeO.bind ?_ (fun _ => ?_)
set_option maxHeartbeats 8000000 in
set_option maxRecDepth 100000 in
theorem spec_SumOfDigitsUpTo.calls (k : Nat) (a0 : Int) (r1 : Int) (r2 : Bool) (w : World) (h : spec_SumOfDigitsUpTo.f k a0 = some (r1, r2)) :
 Calls Tryd.prog 12 #[.int .i64 a0] w fun e w' => e = .returned (.tuple #[.int .i64 r1, .bool r2]) ∧ Drawn0 w w' := by
 have H : ((spec_diGood.f a0).bind fun t178 => (if t178 = true then (spec_SumOfDigitsUpTo.l0 k a0 0 1) else (some (0, false)))) = some (r1, r2) := h
 clear h
 replace H := Option.bind_eq_some_iff.mp H
 obtain ⟨t178, A20, H⟩ := H
 have A2 := Aside0.mk A20
 clear A20
 by_cases c3 : t178 = true
 · subst c3
   have H1 : (spec_SumOfDigitsUpTo.l0 k a0 0 1) = some (r1, r2) := by rw [if_pos rfl] at H; exact H
   clear H
   have H := H1
   clear H1
   have H' := Aside0.mk H
   clear H
   go_enter Tryd.func12, Tryd.ntmps12
   go_wp2_with (first | ((with_reducible refine gate_callee (f := 36) rfl ?_); refine goesL_ (some 7) rfl rfl Tryd.func36 (by kernel_rfl) rfl #[.int .i64 a0] rfl z2_0_ ?_; (with_reducible refine (spec_diGood.calls a0 true _ A2.out).mono ?_); rintro e w' ⟨rfl, ⟨nd, rfl⟩⟩; refine ⟨_, rfl, ?_⟩))
   go_loopg [4, 5] k (fun kq v4 v5 w' => ∃ (x4_1 : Int) (x5_1 : Int), v4 = .int .i64 x4_1 ∧ v5 = .int .i64 x5_1 ∧ Aside0 (spec_SumOfDigitsUpTo.l0 kq a0 x4_1 x5_1 = some (r1, r2)) ∧ Aside0 (kq ≤ k) ∧ Drawn0 w w')
   case atStart => exact ⟨(0), (1), z2_1_, z2_1_, H', ⟨Nat.le_refl _⟩, by repeat (first | exact Drawn0.refl _ | apply Drawn0.step)⟩
   case round =>
    clear H'
    (try clear c1);(try clear p2);(try clear c3)
    obtain ⟨x4_1, x5_1, rfl, rfl, HA, HK1, ⟨m1, rfl⟩⟩ := hrel
    cases gk with
    | zero => exact absurd HA.out (by simp [spec_SumOfDigitsUpTo.l0])
    | succ k1 =>
     have H := HA.out
     clear HA
     simp only [spec_SumOfDigitsUpTo.l0] at H
     by_cases c4 : x5_1 ≤ 9
     · rw [if_pos c4] at H
       have c4b0 : decide (x5_1 ≤ 9) = true := decide_eq_true c4
       clear c4
       replace H := Option.bind_eq_some_iff.mp H
       obtain ⟨t179, A50, H⟩ := H
       have A5 := Aside0.mk A50
       clear A50
       have H' := Aside0.mk H
       clear H
       go_wp2_with (first | ((with_reducible refine gate_callee (f := 37) rfl ?_); refine goesL_ (some 17) rfl rfl Tryd.func37 (by kernel_rfl) rfl #[.int .i64 a0, .int .i64 x5_1] rfl z2_0_ ?_; (with_reducible refine (spec_diCount.calls k1 a0 x5_1 t179 _ A5.out).mono ?_); rintro e w' ⟨rfl, ⟨nd, rfl⟩⟩; refine ⟨_, rfl, ?_⟩))
       go_roundg k1
       case measure => have := HK1.out; omega
       case rel => exact ⟨(wrap64 (x4_1 + (wrap64 (x5_1 * t179)))), (wrap64 (x5_1 + 1)), z2_1_, z2_1_, H', ⟨by have := HK1.out; omega⟩, by repeat (first | exact Drawn0.refl _ | apply Drawn0.step)⟩
     rw [if_neg c4] at H
     have c4b0 : decide (x5_1 ≤ 9) = false := decide_eq_false c4
     clear c4
     simp only [Option.some.injEq, Prod.mk.injEq] at H
     obtain ⟨rfl, rfl⟩ := H
     go_wp2
     go_ret2
     exact ⟨by first | rfl | (simp; done) | (simp [*]; done), by repeat (first | exact Drawn0.refl _ | apply Drawn0.step)⟩
 replace c3 := Bool.eq_false_iff.mpr c3
 subst c3
 have H1 : (some (0, false)) = some (r1, r2) := by rw [if_neg (show ¬ (false = true) by decide)] at H; exact H
 clear H
 have H := H1
 clear H1
 simp only [Option.some.injEq, Prod.mk.injEq] at H
 obtain ⟨rfl, rfl⟩ := H
 go_enter Tryd.func12, Tryd.ntmps12
 go_wp2_with (first | ((with_reducible refine gate_callee (f := 36) rfl ?_); refine goesL_ (some 7) rfl rfl Tryd.func36 (by kernel_rfl) rfl #[.int .i64 a0] rfl z2_0_ ?_; (with_reducible refine (spec_diGood.calls a0 false _ A2.out).mono ?_); rintro e w' ⟨rfl, ⟨nd, rfl⟩⟩; refine ⟨_, rfl, ?_⟩))
 go_ret2
 exact ⟨by first | rfl | (simp; done) | (simp [*]; done), by repeat (first | exact Drawn0.refl _ | apply Drawn0.step)⟩

/-! ### impl_least: function 40 -/
def impl_least.go (p : Int → Option Bool) : Nat → Int → Int → Option Int
 | 0, _, _ => none
 | c + 1, lo, hi => if lo < hi then (p (wrap64 (Int.tdiv (wrap64 (lo + hi)) 2))).bind fun b => (if b = true then impl_least.go p c lo (wrap64 (Int.tdiv (wrap64 (lo + hi)) 2)) else impl_least.go p c (wrap64 (wrap64 (Int.tdiv (wrap64 (lo + hi)) 2) + 1)) hi) else some lo
theorem impl_least.go_mono {p p' : Int → Option Bool} (hp : ∀ x, LeO (p x) (p' x)) : ∀ c lo hi, LeO (impl_least.go p c lo hi) (impl_least.go p' (c + 1) lo hi)
 | 0, _, _ => fun r h => by simp [impl_least.go] at h
 | c + 1, lo, hi => by
  unfold impl_least.go
  exact LeO.ite (LeO.bind (hp _) (fun b => LeO.ite (impl_least.go_mono hp c _ _) (impl_least.go_mono hp c _ _))) (LeO.refl _)
set_option maxHeartbeats 8000000 in
set_option maxRecDepth 100000 in
theorem impl_least.calls (p : Int → Option Bool) (k : Nat) (g : FuncId) (fn : Func) (lb : Array Value) (lo hi r : Int) (w : World)
 (hf : Tryd.prog.funcs[g]? = some fn) (hname : (fn.name == "runtime.NumGoroutine") = false) (hb : fn.body.isSome = true)
 (hp : ∀ x t W, p x = some t → Below w.heap.size w W → Calls Tryd.prog g (#[.int .i64 x] ++ lb) W fun e W' => e = .returned (.bool t) ∧ Below W.heap.size W W')
 (h : impl_least.go p k lo (wrap64 (hi + 1)) = some r) :
 Calls Tryd.prog 40 #[.int .i64 lo, .int .i64 hi, .func (.func g) #[] lb] w fun e w' => e = .returned (.int .i64 r) ∧ Below w.heap.size w w' := by
 have HP := Aside0.mk hp
 have HF := Aside0.mk hf
 have HN := Aside0.mk hname
 have HBD := Aside0.mk hb
 have H' := Aside0.mk h
 have HB := Aside0.mk (Below.refl w.heap.size w)
 clear hp hf hname hb h
 go_enter Tryd.func40, Tryd.ntmps40
 go_wp2
 go_loopg [0, 1] k (fun kq v0 v1 w' => ∃ lo hi : Int, v0 = .int .i64 lo ∧ v1 = .int .i64 hi ∧ Aside0 (impl_least.go p kq lo hi = some r) ∧ Aside0 (Below w.heap.size w w'))
 case atStart => exact ⟨lo, wrap64 (hi + 1), rfl, rfl, H', HB⟩
 case round =>
  clear H' HB
  obtain ⟨lo, hi, rfl, rfl, HA, HB⟩ := hrel
  have h := HA.out
  clear HA
  cases gk with
  | zero => simp [impl_least.go] at h
  | succ c =>
   unfold impl_least.go at h
   by_cases cc : lo < hi
   · rw [if_pos cc] at h
     have c1 : decide (lo < hi) = true := decide_eq_true cc
     clear cc
     obtain ⟨m, hm⟩ : ∃ m, m = wrap64 (Int.tdiv (wrap64 (lo + hi)) 2) := ⟨_, rfl⟩
     rw [← hm] at h
     obtain ⟨b, hb, h⟩ := Option.bind_eq_some_iff.mp h
     have HT := Aside0.mk hb
     have HM := Aside0.mk hm.symm
     clear hb hm
     cases b with
     | true =>
      rw [if_pos rfl] at h
      have HA2 := Aside0.mk h
      clear h
      go_wp2_with (first | ((with_reducible refine gate_dst (N := 19) rfl ?_); (try simp only [HM.out]); refine Fn.goesF_ (some 19) rfl rfl HF.out HN.out HBD.out #[.int .i64 m] rfl (by rfl) (by (try simp only [List.map_toArray, List.map_cons, List.map_nil]); rfl) ?_; (with_reducible refine (HP.out m true _ HT.out HB.out).mono ?_); rintro e w11 ⟨rfl, hb⟩; refine ⟨_, rfl, ?_⟩; have HB2 := Aside0.mk (below_step HB.out hb); clear hb))
      (try simp only [HM.out])
      go_roundg c
      case measure => omega
      case rel => exact ⟨lo, m, rfl, rfl, HA2, HB2⟩
     | false =>
      rw [if_neg (by decide)] at h
      have HA2 := Aside0.mk h
      clear h
      go_wp2_with (first | ((with_reducible refine gate_dst (N := 19) rfl ?_); (try simp only [HM.out]); refine Fn.goesF_ (some 19) rfl rfl HF.out HN.out HBD.out #[.int .i64 m] rfl (by rfl) (by (try simp only [List.map_toArray, List.map_cons, List.map_nil]); rfl) ?_; (with_reducible refine (HP.out m false _ HT.out HB.out).mono ?_); rintro e w11 ⟨rfl, hb⟩; refine ⟨_, rfl, ?_⟩; have HB2 := Aside0.mk (below_step HB.out hb); clear hb))
      (try simp only [HM.out])
      go_roundg c
      case measure => omega
      case rel => exact ⟨wrap64 (m + 1), hi, rfl, rfl, HA2, HB2⟩
   rw [if_neg cc] at h
   have c1 : decide (lo < hi) = false := decide_eq_false cc
   have hr : lo = r := Option.some.inj h
   subst hr
   clear cc h
   go_wp2
   go_ret
   exact ⟨rfl, HB.out⟩

end Go.Proofs.YtiobgaeambfcbaaDoor.PFnDigitsWritten

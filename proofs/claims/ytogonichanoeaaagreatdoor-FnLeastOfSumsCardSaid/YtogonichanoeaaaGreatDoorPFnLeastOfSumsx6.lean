-- Laid by this session's program gprint.py over the kit's print.
import Derived.Test.YtogonichanoeaaaGreatDoorPFnLeastOfSumsx0
import Derived.Test.YtogonichanoeaaaGreatDoorPFnLeastOfSumsx1
import Derived.Test.YtogonichanoeaaaGreatDoorPFnLeastOfSumsx2
import Derived.Test.YtogonichanoeaaaGreatDoorPFnLeastOfSumsx3
namespace Go.Proofs.YtogonichanoeaaaGreatDoor.PFnLeastOfSums
open Go.RowKit Go.Proofs.YtogonichanoeaaaGreatDoorW.PrintWords Go.Proofs.YtogonichanoeaaaGreatDoorW.PrintLast Go.Proofs.YtogonichanoeaaaGreatDoorW.PrintMore
attribute [local go_sem] max2_int min2_int max_two min_two max_three min_three max_four min_four   -- for this text's walks alone
set_option linter.unusedVariables false
set_option linter.unusedSimpArgs false
theorem z6_0_ {p : Prop} (h : p := by repeat (first | (with_reducible first | exact HB.out | apply below_alloc | apply pw_below_drewN | apply below_drew1) | exact HB.out)) : p := h
theorem z6_1_ {p : Prop} (h : p := by first | (with_reducible assumption) | assumption) : p := h
theorem z6_2_ {p : Prop} (h : p := by (try simp only [List.map_toArray, List.map_cons, List.map_nil]); first | done | rfl | (simp only [List.length_drop, List.length_take]; rfl)) : p := h
theorem z6_3_ {p : Prop} (h : p := by first | rfl | (simp; done) | (simp [*]; done)) : p := h
theorem z6_4_ {p : Prop} (h : p := by (with_reducible repeat (first | apply Kd.R_alloc | apply Kd.R_drewN | apply Kd.R_drew)); exact Kd.R_mono HO_33.out (fun _ hk => ⟨trivial, hk⟩)) : p := h

/-! ### spec_CountOfDigits: function 21 -/
mutual
def spec_CountOfDigits.j0 : Nat → Int → Int → Bool → Option (Int × Bool)
 | 0, _, _, _ => none
 | k + 1, x0, x1, x19 => if x19 = true then (some (0, false)) else (if 0 ≤ (wrap64 (x1 + 1)) then (if (wrap64 (x1 + 1) : Int).toNat ≤ 35184372088832 then ((some (List.replicate (wrap64 (x1 + 1) : Int).toNat 0 : List Int)).bind fun y288 => (if 0 < (y288.length : Int) then (spec_CountOfDigits.l0 k x0 x1 (y288.set (0 : Int).toNat 1) 0) else (none))) else (none)) else (none))
def spec_CountOfDigits.l0 : Nat → Int → Int → List Int → Int → Option (Int × Bool)
 | 0, _, _, _, _ => none
 | k + 1, x0, x1, x6, x7 => if x7 < x0 then (if 0 ≤ (wrap64 (x1 + 1)) then (if (wrap64 (x1 + 1) : Int).toNat ≤ 35184372088832 then (spec_CountOfDigits.l1 k x0 x1 x7 (List.replicate (wrap64 (x1 + 1) : Int).toNat 0) x6 (x6.length : Int) 0) else (none)) else (none)) else (if 0 ≤ x1 then (if x1 < (x6.length : Int) then (some (rd x6 x1, true)) else (none)) else (none))
def spec_CountOfDigits.l1 : Nat → Int → Int → Int → List Int → List Int → Int → Int → Option (Int × Bool)
 | 0, _, _, _, _, _, _, _ => none
 | k + 1, x0, x1, x7, x8, x33, x34, x35 => if x35 < x34 then (if 0 ≤ x35 then (if x35 < (x33.length : Int) then (spec_CountOfDigits.l2 k x0 x1 x7 x8 x35 (rd x33 x35) 0 x33 x34 x35) else (none)) else (none)) else (spec_CountOfDigits.l0 k x0 x1 x8 (wrap64 (x7 + 1)))
def spec_CountOfDigits.l2 : Nat → Int → Int → Int → List Int → Int → Int → Int → List Int → Int → Int → Option (Int × Bool)
 | 0, _, _, _, _, _, _, _, _, _, _ => none
 | k + 1, x0, x1, x7, x8, x9, x10, x11, x33, x34, x35 => if x11 < 10 then (spec_CountOfDigits.j4 k x0 x1 x7 x8 x9 x10 x11 x33 x34 x35 (decide ((wrap64 (x9 + x11)) ≤ x1))) else (spec_CountOfDigits.j4 k x0 x1 x7 x8 x9 x10 x11 x33 x34 x35 false)
def spec_CountOfDigits.j4 : Nat → Int → Int → Int → List Int → Int → Int → Int → List Int → Int → Int → Bool → Option (Int × Bool)
 | 0, _, _, _, _, _, _, _, _, _, _, _ => none
 | k + 1, x0, x1, x7, x8, x9, x10, x11, x33, x34, x35, x48 => if x48 = true then (if x7 > 0 then (if 0 ≤ (wrap64 (x9 + x11)) then (if (wrap64 (x9 + x11)) < (x8.length : Int) then (spec_CountOfDigits.l2 k x0 x1 x7 (x8.set ((wrap64 (x9 + x11)) : Int).toNat (wrap64 ((rd x8 (wrap64 (x9 + x11))) + x10))) x9 x10 (wrap64 (x11 + 1)) x33 x34 x35) else (none)) else (none)) else (if x11 > 0 then (if 0 ≤ (wrap64 (x9 + x11)) then (if (wrap64 (x9 + x11)) < (x8.length : Int) then (spec_CountOfDigits.l2 k x0 x1 x7 (x8.set ((wrap64 (x9 + x11)) : Int).toNat (wrap64 ((rd x8 (wrap64 (x9 + x11))) + x10))) x9 x10 (wrap64 (x11 + 1)) x33 x34 x35) else (none)) else (none)) else (if x0 = 1 then (if 0 ≤ (wrap64 (x9 + x11)) then (if (wrap64 (x9 + x11)) < (x8.length : Int) then (spec_CountOfDigits.l2 k x0 x1 x7 (x8.set ((wrap64 (x9 + x11)) : Int).toNat (wrap64 ((rd x8 (wrap64 (x9 + x11))) + x10))) x9 x10 (wrap64 (x11 + 1)) x33 x34 x35) else (none)) else (none)) else (spec_CountOfDigits.l2 k x0 x1 x7 x8 x9 x10 (wrap64 (x11 + 1)) x33 x34 x35)))) else (spec_CountOfDigits.l1 k x0 x1 x7 x8 x33 x34 (wrap64 (x35 + 1)))
end
def spec_CountOfDigits.f (k : Nat) (a0 : Int) (a1 : Int) : Option (Int × Bool) := (spec_l1In.f a0 1 12).bind fun t286 => (if t286 = true then ((spec_leSum.f a1).bind fun t287 => (spec_CountOfDigits.j0 k a0 a1 (!t287))) else (spec_CountOfDigits.j0 k a0 a1 true))
theorem spec_CountOfDigits.mono_l : ∀ k, (∀ y0 y1 y2, LeO (spec_CountOfDigits.j0 k y0 y1 y2) (spec_CountOfDigits.j0 (k + 1) y0 y1 y2)) ∧ (∀ y0 y1 y2 y3, LeO (spec_CountOfDigits.l0 k y0 y1 y2 y3) (spec_CountOfDigits.l0 (k + 1) y0 y1 y2 y3)) ∧ (∀ y0 y1 y2 y3 y4 y5 y6, LeO (spec_CountOfDigits.l1 k y0 y1 y2 y3 y4 y5 y6) (spec_CountOfDigits.l1 (k + 1) y0 y1 y2 y3 y4 y5 y6)) ∧ (∀ y0 y1 y2 y3 y4 y5 y6 y7 y8 y9, LeO (spec_CountOfDigits.l2 k y0 y1 y2 y3 y4 y5 y6 y7 y8 y9) (spec_CountOfDigits.l2 (k + 1) y0 y1 y2 y3 y4 y5 y6 y7 y8 y9)) ∧ (∀ y0 y1 y2 y3 y4 y5 y6 y7 y8 y9 y10, LeO (spec_CountOfDigits.j4 k y0 y1 y2 y3 y4 y5 y6 y7 y8 y9 y10) (spec_CountOfDigits.j4 (k + 1) y0 y1 y2 y3 y4 y5 y6 y7 y8 y9 y10))
 | 0 => ⟨fun _ _ _ r h => by simp [spec_CountOfDigits.j0] at h, fun _ _ _ _ r h => by simp [spec_CountOfDigits.l0] at h, fun _ _ _ _ _ _ _ r h => by simp [spec_CountOfDigits.l1] at h, fun _ _ _ _ _ _ _ _ _ _ r h => by simp [spec_CountOfDigits.l2] at h, fun _ _ _ _ _ _ _ _ _ _ _ r h => by simp [spec_CountOfDigits.j4] at h⟩
 | k + 1 => by
  obtain ⟨ih0, ih1, ih2, ih3, ih4⟩ := spec_CountOfDigits.mono_l k
  refine ⟨?_, ?_, ?_, ?_, ?_⟩
  · intro y0 y1 y2
    unfold spec_CountOfDigits.j0
    repeat' first
    | (with_reducible exact ih0 _ _ _)
    | (with_reducible exact ih1 _ _ _ _)
    | (with_reducible exact ih2 _ _ _ _ _ _ _)
    | (with_reducible exact ih3 _ _ _ _ _ _ _ _ _ _)
    | (with_reducible exact ih4 _ _ _ _ _ _ _ _ _ _ _)
    | (with_reducible exact LeO.refl _)
    | (with_reducible exact LeO.none _)
    | (with_reducible refine LeO.ite ?_ ?_)
    | (with_reducible refine LeO.bind ?_ (fun _ => ?_))
    | exact ih0 _ _ _
    | exact ih1 _ _ _ _
    | exact ih2 _ _ _ _ _ _ _
    | exact ih3 _ _ _ _ _ _ _ _ _ _
    | exact ih4 _ _ _ _ _ _ _ _ _ _ _
    | exact LeO.none _
    | refine LeO.ite ?_ ?_
    | refine LeO.bind ?_ (fun _ => ?_)
  · intro y0 y1 y2 y3
    unfold spec_CountOfDigits.l0
    repeat' first
    | (with_reducible exact ih0 _ _ _)
    | (with_reducible exact ih1 _ _ _ _)
    | (with_reducible exact ih2 _ _ _ _ _ _ _)
    | (with_reducible exact ih3 _ _ _ _ _ _ _ _ _ _)
    | (with_reducible exact ih4 _ _ _ _ _ _ _ _ _ _ _)
    | (with_reducible exact LeO.refl _)
    | (with_reducible exact LeO.none _)
    | (with_reducible refine LeO.ite ?_ ?_)
    | (with_reducible refine LeO.bind ?_ (fun _ => ?_))
    | exact ih0 _ _ _
    | exact ih1 _ _ _ _
    | exact ih2 _ _ _ _ _ _ _
    | exact ih3 _ _ _ _ _ _ _ _ _ _
    | exact ih4 _ _ _ _ _ _ _ _ _ _ _
    | exact LeO.none _
    | refine LeO.ite ?_ ?_
    | refine LeO.bind ?_ (fun _ => ?_)
  · intro y0 y1 y2 y3 y4 y5 y6
    unfold spec_CountOfDigits.l1
    repeat' first
    | (with_reducible exact ih0 _ _ _)
    | (with_reducible exact ih1 _ _ _ _)
    | (with_reducible exact ih2 _ _ _ _ _ _ _)
    | (with_reducible exact ih3 _ _ _ _ _ _ _ _ _ _)
    | (with_reducible exact ih4 _ _ _ _ _ _ _ _ _ _ _)
    | (with_reducible exact LeO.refl _)
    | (with_reducible exact LeO.none _)
    | (with_reducible refine LeO.ite ?_ ?_)
    | (with_reducible refine LeO.bind ?_ (fun _ => ?_))
    | exact ih0 _ _ _
    | exact ih1 _ _ _ _
    | exact ih2 _ _ _ _ _ _ _
    | exact ih3 _ _ _ _ _ _ _ _ _ _
    | exact ih4 _ _ _ _ _ _ _ _ _ _ _
    | exact LeO.none _
    | refine LeO.ite ?_ ?_
    | refine LeO.bind ?_ (fun _ => ?_)
  · intro y0 y1 y2 y3 y4 y5 y6 y7 y8 y9
    unfold spec_CountOfDigits.l2
    repeat' first
    | (with_reducible exact ih0 _ _ _)
    | (with_reducible exact ih1 _ _ _ _)
    | (with_reducible exact ih2 _ _ _ _ _ _ _)
    | (with_reducible exact ih3 _ _ _ _ _ _ _ _ _ _)
    | (with_reducible exact ih4 _ _ _ _ _ _ _ _ _ _ _)
    | (with_reducible exact LeO.refl _)
    | (with_reducible exact LeO.none _)
    | (with_reducible refine LeO.ite ?_ ?_)
    | (with_reducible refine LeO.bind ?_ (fun _ => ?_))
    | exact ih0 _ _ _
    | exact ih1 _ _ _ _
    | exact ih2 _ _ _ _ _ _ _
    | exact ih3 _ _ _ _ _ _ _ _ _ _
    | exact ih4 _ _ _ _ _ _ _ _ _ _ _
    | exact LeO.none _
    | refine LeO.ite ?_ ?_
    | refine LeO.bind ?_ (fun _ => ?_)
  intro y0 y1 y2 y3 y4 y5 y6 y7 y8 y9 y10
  unfold spec_CountOfDigits.j4
  repeat' first
  | (with_reducible exact ih0 _ _ _)
  | (with_reducible exact ih1 _ _ _ _)
  | (with_reducible exact ih2 _ _ _ _ _ _ _)
  | (with_reducible exact ih3 _ _ _ _ _ _ _ _ _ _)
  | (with_reducible exact ih4 _ _ _ _ _ _ _ _ _ _ _)
  | (with_reducible exact LeO.refl _)
  | (with_reducible exact LeO.none _)
  | (with_reducible refine LeO.ite ?_ ?_)
  | (with_reducible refine LeO.bind ?_ (fun _ => ?_))
  | exact ih0 _ _ _
  | exact ih1 _ _ _ _
  | exact ih2 _ _ _ _ _ _ _
  | exact ih3 _ _ _ _ _ _ _ _ _ _
  | exact ih4 _ _ _ _ _ _ _ _ _ _ _
  | exact LeO.none _
  | refine LeO.ite ?_ ?_
  | refine LeO.bind ?_ (fun _ => ?_)
theorem spec_CountOfDigits.mono : ∀ a0 a1 k, LeO (spec_CountOfDigits.f k a0 a1) (spec_CountOfDigits.f (k + 1) a0 a1) := by
 intro a0 a1 k
 obtain ⟨ih0, ih1, ih2, ih3, ih4⟩ := spec_CountOfDigits.mono_l k
 unfold spec_CountOfDigits.f
 repeat' first
  | (with_reducible exact ih0 _ _ _)
  | (with_reducible exact ih1 _ _ _ _)
  | (with_reducible exact ih2 _ _ _ _ _ _ _)
  | (with_reducible exact ih3 _ _ _ _ _ _ _ _ _ _)
  | (with_reducible exact ih4 _ _ _ _ _ _ _ _ _ _ _)
  | (with_reducible exact LeO.refl _)
  | (with_reducible exact LeO.none _)
  | (with_reducible refine LeO.ite ?_ ?_)
  | (with_reducible refine LeO.bind ?_ (fun _ => ?_))
  | exact ih0 _ _ _
  | exact ih1 _ _ _ _
  | exact ih2 _ _ _ _ _ _ _
  | exact ih3 _ _ _ _ _ _ _ _ _ _
  | exact ih4 _ _ _ _ _ _ _ _ _ _ _
  | exact LeO.none _
  | refine LeO.ite ?_ ?_
  | refine LeO.bind ?_ (fun _ => ?_)
set_option maxHeartbeats 8000000 in
set_option maxRecDepth 100000 in
theorem spec_CountOfDigits.calls (k : Nat) (a0 : Int) (a1 : Int) (r1 : Int) (r2 : Bool) (w : World) (h : spec_CountOfDigits.f k a0 a1 = some (r1, r2)) :
 Calls Tryz.prog 21 #[.int .i64 a0, .int .i64 a1] w fun e w' => e = .returned (.tuple #[.int .i64 r1, .bool r2]) ∧ Below w.heap.size w w' := by
 have HB := Aside0.mk (Below.refl w.heap.size w)
 have H : ((spec_l1In.f a0 1 12).bind fun t286 => (if t286 = true then ((spec_leSum.f a1).bind fun t287 => (spec_CountOfDigits.j0 k a0 a1 (!t287))) else (spec_CountOfDigits.j0 k a0 a1 true))) = some (r1, r2) := h
 clear h
 have HC3 := Aside0.mk H
 clear H
 go_enter Tryz.func21, Tryz.ntmps21
 go_upto_region 1 with (fail)
 go_cut [19] (fun v19 wc => ∃ (kq : Nat) (x19_2 : Bool), v19 = .bool x19_2 ∧ Aside0 (spec_CountOfDigits.j0 kq a0 a1 x19_2 = some (r1, r2)) ∧ Aside0 (kq ≤ k) ∧ Aside0 (Below w.heap.size w wc))
 case first =>
  have H := HC3.out
  clear HC3
  replace H := Option.bind_eq_some_iff.mp H
  obtain ⟨t286, A40, H⟩ := H
  have A4 := Aside0.mk A40
  clear A40
  by_cases c5 : t286 = true
  · subst c5
    have H1 : ((spec_leSum.f a1).bind fun t287 => (spec_CountOfDigits.j0 k a0 a1 (!t287))) = some (r1, r2) := by rw [if_pos rfl] at H; exact H
    clear H
    have H := H1
    clear H1
    replace H := Option.bind_eq_some_iff.mp H
    obtain ⟨t287, A60, H⟩ := H
    have A6 := Aside0.mk A60
    clear A60
    have H' := Aside0.mk H
    clear H
    go_wp2_with (first | ((with_reducible refine gate_callee (f := 77) rfl ?_); refine goesL_ (some 13) rfl rfl Tryz.func77 (by kernel_rfl) rfl #[.int .i64 a0, .int .i64 1, .int .i64 12] rfl z6_2_ ?_; (with_reducible refine (spec_l1In.calls a0 1 12 true _ A4.out).mono ?_); rintro e w' ⟨rfl, ⟨nd, rfl⟩⟩; refine ⟨_, rfl, ?_⟩) | (go_at_call 67; (with_reducible refine (spec_leSum.calls a1 t287 _ A6.out).mono ?_); rintro e w' ⟨rfl, ⟨nd, rfl⟩⟩))
    go_meet
    case rel => exact ⟨_, (!t287), z6_3_, H', ⟨by first | omega | exact Nat.le_refl _⟩, ⟨by repeat (first | (with_reducible first | exact HB.out | apply below_alloc | apply pw_below_drewN | apply below_drew1) | exact HB.out)⟩⟩
  replace c5 := Bool.eq_false_iff.mpr c5
  subst c5
  have H1 : (spec_CountOfDigits.j0 k a0 a1 true) = some (r1, r2) := by rw [if_neg (show ¬ (false = true) by decide)] at H; exact H
  clear H
  have H := H1
  clear H1
  have H' := Aside0.mk H
  clear H
  go_wp2_with (first | ((with_reducible refine gate_callee (f := 77) rfl ?_); refine goesL_ (some 13) rfl rfl Tryz.func77 (by kernel_rfl) rfl #[.int .i64 a0, .int .i64 1, .int .i64 12] rfl z6_2_ ?_; (with_reducible refine (spec_l1In.calls a0 1 12 false _ A4.out).mono ?_); rintro e w' ⟨rfl, ⟨nd, rfl⟩⟩; refine ⟨_, rfl, ?_⟩))
  go_meet
  case rel => exact ⟨_, (true), z6_3_, H', ⟨by first | omega | exact Nat.le_refl _⟩, ⟨by repeat (first | (with_reducible first | exact HB.out | apply below_alloc | apply pw_below_drewN | apply below_drew1) | exact HB.out)⟩⟩
 case rest =>
  clear HC3
  (try clear c2);(try clear p2);(try clear c5)
  obtain ⟨kq, x19_2, rfl, HA, HJ2, HB⟩ := hcut
  cases kq with
  | zero => exact absurd HA.out (by simp [spec_CountOfDigits.j0])
  | succ kj2 =>
   have H := HA.out
   clear HA
   simp only [spec_CountOfDigits.j0] at H
   by_cases c7 : x19_2 = true
   · subst c7
     have H1 : (some (0, false)) = some (r1, r2) := by rw [if_pos rfl] at H; exact H
     clear H
     have H := H1
     clear H1
     simp only [Option.some.injEq, Prod.mk.injEq] at H
     obtain ⟨rfl, rfl⟩ := H
     go_wp2
     go_ret2
     exact ⟨by first | rfl | (simp [errW_none, errW_some] <;> rfl) | (simp [*, errW_none, errW_some] <;> rfl), by repeat (first | (with_reducible first | exact HB.out | apply below_alloc | apply pw_below_drewN | apply below_drew1) | exact HB.out)⟩
   replace c7 := Bool.eq_false_iff.mpr c7
   subst c7
   have H1 : (if 0 ≤ (wrap64 (a1 + 1)) then (if (wrap64 (a1 + 1) : Int).toNat ≤ 35184372088832 then ((some (List.replicate (wrap64 (a1 + 1) : Int).toNat 0 : List Int)).bind fun y288 => (if 0 < (y288.length : Int) then (spec_CountOfDigits.l0 kj2 a0 a1 (y288.set (0 : Int).toNat 1) 0) else (none))) else (none)) else (none)) = some (r1, r2) := by rw [if_neg (show ¬ (false = true) by decide)] at H; exact H
   clear H
   have H := H1
   clear H1
   obtain ⟨ji8, hji8⟩ : ∃ j_ : Int, (wrap64 (a1 + 1)) = j_ := ⟨_, rfl⟩
   replace H : (if 0 ≤ (ji8) then (if (ji8 : Int).toNat ≤ 35184372088832 then ((some (List.replicate (ji8 : Int).toNat 0 : List Int)).bind fun y288 => (if 0 < (y288.length : Int) then (spec_CountOfDigits.l0 kj2 a0 a1 (y288.set (0 : Int).toNat 1) 0) else (none))) else (none)) else (none)) = some (r1, r2) := by first | (rw [hji8] at H; exact H) | (simp only [hji8] at H ⊢; exact H)
   have hji8w : (IntKind.i64.wrap (a1 + 1)) = ji8 := (i64_w _).trans hji8
   by_cases c9 : 0 ≤ (ji8)
   rotate_left
   · exact none_ (if_neg c9) H
   rw [if_pos c9] at H
   have c9b0 := eq_true c9
   have c9b1 : decide (0 ≤ (ji8)) = true := decide_eq_true c9
   clear c9
   by_cases c10 : (ji8 : Int).toNat ≤ 35184372088832
   rotate_left
   · exact none_ (if_neg c10) H
   rw [if_pos c10] at H
   have c10b0 := eq_true c10
   have c10b1 : decide ((ji8 : Int).toNat ≤ 35184372088832) = true := decide_eq_true c10
   clear c10
   obtain ⟨y288, hy288⟩ : ∃ y_ : List Int, y_ = (List.replicate (ji8 : Int).toNat 0) := ⟨_, rfl⟩
   replace H : (if 0 < (y288.length : Int) then (spec_CountOfDigits.l0 kj2 a0 a1 (y288.set (0 : Int).toNat 1) 0) else (none)) = some (r1, r2) := by first | (rw [hy288]; with_reducible exact H) | (have H2_ := (Option.bind_some _ _).symm.trans H; rw [hy288]; with_reducible exact H2_) | (have H2_ := (Option.bind_some _ _).symm.trans H; with_reducible exact H2_) | with_reducible exact H | (rw [hy288]; exact H) | exact H
   have Ny288 := Aside0.mk hy288
   clear hy288
   by_cases c11 : 0 < (y288.length : Int)
   rotate_left
   · exact none_ (if_neg c11) H
   rw [if_pos c11] at H
   have c11b0 : decide (0 < (y288.length : Int)) = true := decide_eq_true c11
   have c11b1 : decide (0 < y288.length) = true := decide_eq_true (by omega)
   clear c11
   obtain ⟨y291, hy291⟩ : ∃ y_ : List Int, y_ = (y288.set (0 : Int).toNat 1) := ⟨_, rfl⟩
   replace H : (spec_CountOfDigits.l0 kj2 a0 a1 y291 0) = some (r1, r2) := by first | (rw [hy291]; with_reducible exact H) | (have H2_ := (Option.bind_some _ _).symm.trans H; rw [hy291]; with_reducible exact H2_) | (have H2_ := (Option.bind_some _ _).symm.trans H; with_reducible exact H2_) | with_reducible exact H | (rw [hy291]; exact H) | exact H
   have Ny291 := Aside0.mk hy291
   clear hy291
   have H' := Aside0.mk H
   clear H
   go_wp2_with (first | ((with_reducible refine gate_dst (N := 22) rfl ?_); refine Kd.R_make (Kd.int .i64) _ 3 rfl (N := 22) rfl 47 _ _ rfl ji8 rfl rfl Tryz.underlying47 (.int .i64 0) 8 info3 rfl (by decide) (by omega) 0 (ok := fun _ => True) (okp := fun _ => True) rfl (fun _ hk => hk) trivial (of_decide_eq_true z6_1_) (Nat.le_trans (Nat.mul_le_mul_right _ (of_decide_eq_true z6_1_ : ji8.toNat ≤ 35184372088832)) (by omega)) (Below.refl _ _) (Nat.le_refl _) ?_; intro v289 w13 ho14 hb hg_ hnew_; clear hg_ hnew_; (first | rw [← Ny288.out] at ho14 | (simp only [Int.reduceToNat] at ho14; rw [← Ny288.out] at ho14)); have n0_ := Aside0.mk (Kd.R_lower ho14 (below_size z6_0_)); have n1_ := Aside0.mk (below_step z6_0_ hb); clear HB; have HO290 := n0_; have HB := n1_; clear n0_ n1_; clear hb ho14; have p12 : 0 ≤ (0 : Int) := (by omega); have q12 : (0 : Int) < ((y288.length : Int) : Int) := of_decide_eq_true z6_1_; have qi12 : (0 < y288.length) = True := eq_true (by omega); obtain ⟨go12, co12, eo12, gb12, gl12, cl12, HG12⟩ := Kd.R_form HO290.out (by omega); (first | cases eo12 | (injection eo12 with ea_ en_ ec_; (first | subst ea_ | (injection ea_ with ea_; subst ea_)); subst ec_; clear en_)); have GB12 := Aside0.mk gb12; have GG12 := Aside0.mk HG12; clear gb12 gl12 HG12; obtain ⟨hx12_0, hf12_0⟩ := Kd.R_celln 0 HO290.out (0 : Int) p12 q12; (try rw [show ((0 : Int)).toNat = 0 from rfl] at hx12_0); (try simp only [Nat.reduceMul, Nat.zero_mul, Nat.zero_add, Nat.reduceAdd] at hx12_0); (try rw [show ((0 : Int)).toNat = 0 from rfl] at hf12_0); (try simp only [Nat.reduceMul, Nat.zero_mul, Nat.zero_add, Nat.reduceAdd] at hf12_0); replace p12 := eq_true p12; replace q12 := eq_true q12; obtain ⟨hy15_, hz15_⟩ := Kd.R_celln 0 HO290.out (0 : Int) (by omega) (of_decide_eq_true z6_1_); (try simp only [Int.reduceToNat, Int.toNat_zero, Int.toNat_ofNat, Nat.reduceMul, Nat.zero_mul, Nat.zero_add] at hy15_ hz15_); (try rw [show ((0 : Int)).toNat = 0 from rfl] at hy15_); (try rw [show ((0 : Int)).toNat = 0 from rfl] at hz15_); have HP15 := Kd.R_putg HO290.out (0 : Int) 1) | ((with_reducible refine gate_store (t := 3) (p := 24) rfl ?_); refine store_event (t := 3) (p := 24) (v := ?vo_w16) (w1 := (w13.setCell ⟨go12, (0 : Int).toNat, none⟩ (.int .i64 1))) ?hg ?ho ?hn ?hr ?_; (case ho => rfl); (case hg => rfl); (case hn => rfl); (case hr => first | (go_simp; done) | (go_simp; rfl)); intro w16 hw; have hg : w13.grownBy w16 (some go12) := (by rw [hw]; exact HP15.2); have hp_ : Kd.R (Kd.int .i64) 3 w16 w.heap.size (fun _ => True) (.slice (some ⟨go12, 0, none⟩) y288.length co12) y291 := (by rw [hw, Ny291.out]; exact HP15.1); clear HP15; have n0_ := Aside0.mk (hp_); have n1_ := Aside0.mk ((by rw [hw]; exact below_set (HB.out) GB12.out : Below w.heap.size w w16)); clear HO290; clear HB; have HO290 := n0_; have HB := n1_; clear n0_ n1_; clear hg hw hp_))
   go_loopg [6, 7] kj2 (fun kq v6 v7 w' => ∃ (x6_2 : List Int) (x7_2 : Int), v7 = .int .i64 x7_2 ∧ Aside0 (spec_CountOfDigits.l0 kq a0 a1 x6_2 x7_2 = some (r1, r2)) ∧ Aside0 (kq ≤ kj2) ∧ Aside0 (Kd.R (Kd.int .i64) 3 w' w.heap.size (fun _ => True) v6 x6_2) ∧ Aside0 (Below w.heap.size w w'))
   case atStart => exact ⟨(y291), (0), z6_3_, H', ⟨Nat.le_refl _⟩, ⟨by (with_reducible repeat (first | apply Kd.R_alloc | apply Kd.R_drewN | apply Kd.R_drew)); exact HO290.out⟩, ⟨by repeat (first | (with_reducible first | exact HB.out | apply below_alloc | apply pw_below_drewN | apply below_drew1) | exact HB.out)⟩⟩
   case round =>
    clear H'
    (try clear c1);(try clear p1);(try clear q1);(try clear hx1);(try clear qi1);(try clear c2);(try clear p2);(try clear c5);(try clear p6);(try clear c7);(try clear c9);(try clear c9b0);(try clear c9b1);(try clear c10);(try clear c10b0);(try clear c10b1);(try clear c11);(try clear c11b0);(try clear c11b1);(try clear p12);(try clear q12);(try clear hx12);(try clear qi12);(try clear hf12);(try clear hx12_0);(try clear p12);(try clear p2);(try clear q12)
    obtain ⟨x6_2, x7_2, rfl, HA, HK2, HO_6, HB⟩ := hrel
    cases gk with
    | zero => exact absurd HA.out (by simp [spec_CountOfDigits.l0])
    | succ k2 =>
     have H := HA.out
     clear HA
     simp only [spec_CountOfDigits.l0] at H
     by_cases c17 : x7_2 < a0
     · rw [if_pos c17] at H
       have c17b0 : decide (x7_2 < a0) = true := decide_eq_true c17
       clear c17
       obtain ⟨ji18, hji18⟩ : ∃ j_ : Int, (wrap64 (a1 + 1)) = j_ := ⟨_, rfl⟩
       replace H : (if 0 ≤ (ji18) then (if (ji18 : Int).toNat ≤ 35184372088832 then (spec_CountOfDigits.l1 k2 a0 a1 x7_2 (List.replicate (ji18 : Int).toNat 0) x6_2 (x6_2.length : Int) 0) else (none)) else (none)) = some (r1, r2) := by first | (rw [hji18] at H; exact H) | (simp only [hji18] at H ⊢; exact H)
       have hji18w : (IntKind.i64.wrap (a1 + 1)) = ji18 := (i64_w _).trans hji18
       clear hji8 hji8w
       by_cases c19 : 0 ≤ (ji18)
       rotate_left
       · exact none_ (if_neg c19) H
       rw [if_pos c19] at H
       have c19b0 := eq_true c19
       have c19b1 : decide (0 ≤ (ji18)) = true := decide_eq_true c19
       clear c19
       by_cases c20 : (ji18 : Int).toNat ≤ 35184372088832
       rotate_left
       · exact none_ (if_neg c20) H
       rw [if_pos c20] at H
       have c20b0 := eq_true c20
       have c20b1 : decide ((ji18 : Int).toNat ≤ 35184372088832) = true := decide_eq_true c20
       clear c20
       obtain ⟨y293, hy293⟩ : ∃ y_ : List Int, y_ = (List.replicate (ji18 : Int).toNat 0) := ⟨_, rfl⟩
       replace H : (spec_CountOfDigits.l1 k2 a0 a1 x7_2 y293 x6_2 (x6_2.length : Int) 0) = some (r1, r2) := by first | (rw [hy293]; with_reducible exact H) | (have H2_ := (Option.bind_some _ _).symm.trans H; rw [hy293]; with_reducible exact H2_) | (have H2_ := (Option.bind_some _ _).symm.trans H; with_reducible exact H2_) | with_reducible exact H | (rw [hy293]; exact H) | exact H
       have Ny293 := Aside0.mk hy293
       clear hy293
       have H' := Aside0.mk H
       clear H
       go_wp2_with (first | ((with_reducible refine gate_dst (N := 32) rfl ?_); refine Kd.R_make (Kd.int .i64) _ 3 rfl (N := 32) rfl 47 _ _ rfl ji18 rfl rfl Tryz.underlying47 (.int .i64 0) 8 info3 rfl (by decide) (by omega) 0 (ok := fun _ => True) (okp := fun _ => True) rfl (fun _ hk => hk) trivial (of_decide_eq_true z6_1_) (Nat.le_trans (Nat.mul_le_mul_right _ (of_decide_eq_true z6_1_ : ji18.toNat ≤ 35184372088832)) (by omega)) (Below.refl _ _) (Nat.le_refl _) ?_; intro v294 w21 ho22 hb hg_ hnew_; clear hg_ hnew_; (first | rw [← Ny293.out] at ho22 | (simp only [Int.reduceToNat] at ho22; rw [← Ny293.out] at ho22)); have n0_ := Aside0.mk (Kd.R_elder' (by (with_reducible repeat (first | apply Kd.R_alloc | apply Kd.R_drewN | apply Kd.R_drew)); exact HO_6.out) (Kd.R_base ho22) hb); have n1_ := Aside0.mk (Kd.R_lower (Kd.R_new' ho22 (Kd.R_lt (by (with_reducible repeat (first | apply Kd.R_alloc | apply Kd.R_drewN | apply Kd.R_drew)); exact HO_6.out))) (below_size z6_0_)); have n2_ := Aside0.mk (below_step z6_0_ hb); clear HO_6; clear HB; have HO_6 := n0_; have HO295 := n1_; have HB := n2_; clear n0_ n1_ n2_; clear hb ho22; obtain ⟨Ao23, co23, eo23⟩ := Kd.R_slice HO_6.out; subst eo23))
       go_loopg [35] k2 (fun kq v35 w' => ∃ (x8_3 : List Int) (x35_3 : Int), v35 = .int .i64 x35_3 ∧ Aside0 (spec_CountOfDigits.l1 kq a0 a1 x7_2 x8_3 x6_2 (x6_2.length : Int) x35_3 = some (r1, r2)) ∧ Aside0 (kq ≤ k2) ∧ Aside0 (Kd.R (Kd.int .i64) 3 w' w.heap.size (fun k_ => some k_ ≠ ((.slice Ao23 x6_2.length co23) : Value).ownBlock) v294 x8_3) ∧ Aside0 (Kd.R (Kd.int .i64) 3 w' w.heap.size (fun k_ => some k_ ≠ (v294 : Value).ownBlock) (.slice Ao23 x6_2.length co23) x6_2) ∧ Aside0 (Below w.heap.size w w'))
       case atStart => exact ⟨(y293), (0), z6_3_, H', ⟨Nat.le_refl _⟩, ⟨by (with_reducible repeat (first | apply Kd.R_alloc | apply Kd.R_drewN | apply Kd.R_drew)); exact Kd.R_mono HO295.out (fun _ hk => hk.2)⟩, ⟨by (with_reducible repeat (first | apply Kd.R_alloc | apply Kd.R_drewN | apply Kd.R_drew)); exact Kd.R_mono HO_6.out (fun _ hk => hk.2)⟩, ⟨by repeat (first | (with_reducible first | exact HB.out | apply below_alloc | apply pw_below_drewN | apply below_drew1) | exact HB.out)⟩⟩
       case round =>
        clear H'
        (try clear c1);(try clear p1);(try clear q1);(try clear hx1);(try clear qi1);(try clear c2);(try clear p2);(try clear c5);(try clear p6);(try clear c7);(try clear c9);(try clear c9b0);(try clear c9b1);(try clear c10);(try clear c10b0);(try clear c10b1);(try clear c11);(try clear c11b0);(try clear c11b1);(try clear p12);(try clear q12);(try clear hx12);(try clear qi12);(try clear hf12);(try clear c17);(try clear c17b0);(try clear c19);(try clear c19b0);(try clear c19b1);(try clear c20);(try clear c20b0);(try clear c20b1);(try clear c21);(try clear hx12_0);(try clear p1);(try clear p12);(try clear p2);(try clear p6);(try clear q1);(try clear q12)
        obtain ⟨x8_3, x35_3, rfl, HA, HK3, HO_8, HO_33, HB⟩ := hrel
        cases gk with
        | zero => exact absurd HA.out (by simp [spec_CountOfDigits.l1])
        | succ k3 =>
         have H := HA.out
         clear HA
         simp only [spec_CountOfDigits.l1] at H
         by_cases c24 : x35_3 < (x6_2.length : Int)
         · rw [if_pos c24] at H
           have c24b0 : decide (x35_3 < (x6_2.length : Int)) = true := decide_eq_true c24
           clear c24
           by_cases c25 : 0 ≤ x35_3
           rotate_left
           · exact none_ (if_neg c25) H
           rw [if_pos c25] at H
           have c25b0 : decide (0 ≤ x35_3) = true := decide_eq_true c25
           clear c25
           by_cases c26 : x35_3 < (x6_2.length : Int)
           rotate_left
           · exact none_ (if_neg c26) H
           rw [if_pos c26] at H
           have c26b0 : decide (x35_3 < (x6_2.length : Int)) = true := decide_eq_true c26
           clear c26
           have H' := Aside0.mk H
           clear H
           have p296 : 0 ≤ (x35_3 : Int) := of_decide_eq_true z6_1_
           have q296 : x35_3 < (x6_2.length : Int) := of_decide_eq_true z6_1_
           obtain ⟨ad296, e296, hx296_0⟩ := Kd.at_int (Kd.R_reads' HO_33.out).2.2 x35_3 p296 q296
           cases e296
           replace p296 := eq_true p296
           replace q296 := eq_true q296
           go_wp2
           go_loopg [11] k3 (fun kq v11 w' => ∃ (x8_4 : List Int) (x11_4 : Int), v11 = .int .i64 x11_4 ∧ Aside0 (spec_CountOfDigits.l2 kq a0 a1 x7_2 x8_4 x35_3 (rd x6_2 x35_3) x11_4 x6_2 (x6_2.length : Int) x35_3 = some (r1, r2)) ∧ Aside0 (kq ≤ k3) ∧ Aside0 (Kd.R (Kd.int .i64) 3 w' w.heap.size (fun k_ => some k_ ≠ ((.slice (some ad296) x6_2.length co23) : Value).ownBlock) v294 x8_4) ∧ Aside0 (Kd.R (Kd.int .i64) 3 w' w.heap.size (fun k_ => some k_ ≠ (v294 : Value).ownBlock) (.slice (some ad296) x6_2.length co23) x6_2) ∧ Aside0 (Below w.heap.size w w'))
           case atStart => exact ⟨(x8_3), (0), z6_3_, H', ⟨Nat.le_refl _⟩, ⟨by (with_reducible repeat (first | apply Kd.R_alloc | apply Kd.R_drewN | apply Kd.R_drew)); exact HO_8.out⟩, ⟨by (with_reducible repeat (first | apply Kd.R_alloc | apply Kd.R_drewN | apply Kd.R_drew)); exact HO_33.out⟩, ⟨by repeat (first | (with_reducible first | exact HB.out | apply below_alloc | apply pw_below_drewN | apply below_drew1) | exact HB.out)⟩⟩
           case round =>
            clear H'
            (try clear c1);(try clear p1);(try clear q1);(try clear hx1);(try clear qi1);(try clear c2);(try clear p2);(try clear q2);(try clear hx2);(try clear c5);(try clear p6);(try clear c7);(try clear c9);(try clear c9b0);(try clear c9b1);(try clear c10);(try clear c10b0);(try clear c10b1);(try clear c11);(try clear c11b0);(try clear c11b1);(try clear p12);(try clear q12);(try clear hx12);(try clear qi12);(try clear hf12);(try clear c17);(try clear c17b0);(try clear c19);(try clear c19b0);(try clear c19b1);(try clear c20);(try clear c20b0);(try clear c20b1);(try clear c21);(try clear c24);(try clear c24b0);(try clear c25);(try clear c25b0);(try clear c26);(try clear c26b0);(try clear hx12_0);(try clear hx296_0);(try clear p1);(try clear p12);(try clear p2);(try clear p296);(try clear p6);(try clear q1);(try clear q12);(try clear q296)
            obtain ⟨x8_4, x11_4, rfl, HA, HK4, HO_8, HO_33, HB⟩ := hrel
            cases gk with
            | zero => exact absurd HA.out (by simp [spec_CountOfDigits.l2])
            | succ k4 =>
             have H := HA.out
             clear HA
             simp only [spec_CountOfDigits.l2] at H
             have HC27 := Aside0.mk H
             clear H
             go_upto_region 13 with (fail)
             go_cut [48] (fun v48 wc => ∃ (kq : Nat) (x48_26 : Bool), v48 = .bool x48_26 ∧ Aside0 (spec_CountOfDigits.j4 kq a0 a1 x7_2 x8_4 x35_3 (rd x6_2 x35_3) x11_4 x6_2 (x6_2.length : Int) x35_3 x48_26 = some (r1, r2)) ∧ Aside0 (kq ≤ k4) ∧ Aside0 (Kd.R (Kd.int .i64) 3 wc w.heap.size (fun k_ => some k_ ≠ ((.slice (some ad296) x6_2.length co23) : Value).ownBlock) v294 x8_4) ∧ Aside0 (Kd.R (Kd.int .i64) 3 wc w.heap.size (fun k_ => some k_ ≠ (v294 : Value).ownBlock) (.slice (some ad296) x6_2.length co23) x6_2) ∧ Aside0 (Below w.heap.size w wc))
             case first =>
              have H := HC27.out
              clear HC27
              by_cases c28 : x11_4 < 10
              · rw [if_pos c28] at H
                have c28b0 : decide (x11_4 < 10) = true := decide_eq_true c28
                clear c28
                (first | rw [c28b0] | (simp only [i64_w, i32_w]; rw [c28b0]) | skip)
                have H' := Aside0.mk H
                clear H
                go_wp2
                go_meet
                case rel => exact ⟨_, (decide ((wrap64 (x35_3 + x11_4)) ≤ a1)), z6_3_, H', ⟨by have := HJ2.out; have := HK2.out; have := HK3.out; have := HK4.out; first | omega | exact Nat.le_refl _⟩, ⟨by (with_reducible repeat (first | apply Kd.R_alloc | apply Kd.R_drewN | apply Kd.R_drew)); exact HO_8.out⟩, ⟨by (with_reducible repeat (first | apply Kd.R_alloc | apply Kd.R_drewN | apply Kd.R_drew)); exact HO_33.out⟩, ⟨by repeat (first | (with_reducible first | exact HB.out | apply below_alloc | apply pw_below_drewN | apply below_drew1) | exact HB.out)⟩⟩
              rw [if_neg c28] at H
              have c28b0 : decide (x11_4 < 10) = false := decide_eq_false c28
              clear c28
              (first | rw [c28b0] | (simp only [i64_w, i32_w]; rw [c28b0]) | skip)
              have H' := Aside0.mk H
              clear H
              go_wp2
              go_meet
              case rel => exact ⟨_, (false), z6_3_, H', ⟨by have := HJ2.out; have := HK2.out; have := HK3.out; have := HK4.out; first | omega | exact Nat.le_refl _⟩, ⟨by (with_reducible repeat (first | apply Kd.R_alloc | apply Kd.R_drewN | apply Kd.R_drew)); exact HO_8.out⟩, ⟨by (with_reducible repeat (first | apply Kd.R_alloc | apply Kd.R_drewN | apply Kd.R_drew)); exact HO_33.out⟩, ⟨by repeat (first | (with_reducible first | exact HB.out | apply below_alloc | apply pw_below_drewN | apply below_drew1) | exact HB.out)⟩⟩
             case rest =>
              clear HC27
              (try clear c1);(try clear p1);(try clear q1);(try clear hx1);(try clear qi1);(try clear c2);(try clear p2);(try clear q2);(try clear hx2);(try clear c5);(try clear p6);(try clear c7);(try clear c9);(try clear c9b0);(try clear c9b1);(try clear c10);(try clear c10b0);(try clear c10b1);(try clear c11);(try clear c11b0);(try clear c11b1);(try clear p12);(try clear q12);(try clear hx12);(try clear qi12);(try clear hf12);(try clear c17);(try clear c17b0);(try clear c19);(try clear c19b0);(try clear c19b1);(try clear c20);(try clear c20b0);(try clear c20b1);(try clear c21);(try clear c24);(try clear c24b0);(try clear c25);(try clear c25b0);(try clear c26);(try clear c26b0);(try clear c28);(try clear c28b0);(try clear hx12_0);(try clear hx296_0);(try clear p1);(try clear p12);(try clear p2);(try clear p296);(try clear p6);(try clear q1);(try clear q12);(try clear q2);(try clear q296)
              obtain ⟨kq, x48_26, rfl, HA, HJ26, HO_8, HO_33, HB⟩ := hcut
              cases kq with
              | zero => exact absurd HA.out (by simp [spec_CountOfDigits.j4])
              | succ kj26 =>
               have H := HA.out
               clear HA
               simp only [spec_CountOfDigits.j4] at H
               by_cases c29 : x48_26 = true
               · subst c29
                 have H1 : (if x7_2 > 0 then (if 0 ≤ (wrap64 (x35_3 + x11_4)) then (if (wrap64 (x35_3 + x11_4)) < (x8_4.length : Int) then (spec_CountOfDigits.l2 kj26 a0 a1 x7_2 (x8_4.set ((wrap64 (x35_3 + x11_4)) : Int).toNat (wrap64 ((rd x8_4 (wrap64 (x35_3 + x11_4))) + (rd x6_2 x35_3)))) x35_3 (rd x6_2 x35_3) (wrap64 (x11_4 + 1)) x6_2 (x6_2.length : Int) x35_3) else (none)) else (none)) else (if x11_4 > 0 then (if 0 ≤ (wrap64 (x35_3 + x11_4)) then (if (wrap64 (x35_3 + x11_4)) < (x8_4.length : Int) then (spec_CountOfDigits.l2 kj26 a0 a1 x7_2 (x8_4.set ((wrap64 (x35_3 + x11_4)) : Int).toNat (wrap64 ((rd x8_4 (wrap64 (x35_3 + x11_4))) + (rd x6_2 x35_3)))) x35_3 (rd x6_2 x35_3) (wrap64 (x11_4 + 1)) x6_2 (x6_2.length : Int) x35_3) else (none)) else (none)) else (if a0 = 1 then (if 0 ≤ (wrap64 (x35_3 + x11_4)) then (if (wrap64 (x35_3 + x11_4)) < (x8_4.length : Int) then (spec_CountOfDigits.l2 kj26 a0 a1 x7_2 (x8_4.set ((wrap64 (x35_3 + x11_4)) : Int).toNat (wrap64 ((rd x8_4 (wrap64 (x35_3 + x11_4))) + (rd x6_2 x35_3)))) x35_3 (rd x6_2 x35_3) (wrap64 (x11_4 + 1)) x6_2 (x6_2.length : Int) x35_3) else (none)) else (none)) else (spec_CountOfDigits.l2 kj26 a0 a1 x7_2 x8_4 x35_3 (rd x6_2 x35_3) (wrap64 (x11_4 + 1)) x6_2 (x6_2.length : Int) x35_3)))) = some (r1, r2) := by rw [if_pos rfl] at H; exact H
                 clear H
                 have H := H1
                 clear H1
                 by_cases c30 : x7_2 > 0
                 · rw [if_pos c30] at H
                   have c30b0 : decide (0 < x7_2) = true := decide_eq_true c30
                   clear c30
                   obtain ⟨ji31, hji31⟩ : ∃ j_ : Int, (wrap64 (x35_3 + x11_4)) = j_ := ⟨_, rfl⟩
                   replace H : (if 0 ≤ (ji31) then (if (ji31) < (x8_4.length : Int) then (spec_CountOfDigits.l2 kj26 a0 a1 x7_2 (x8_4.set ((ji31) : Int).toNat (wrap64 ((rd x8_4 (ji31)) + (rd x6_2 x35_3)))) x35_3 (rd x6_2 x35_3) (wrap64 (x11_4 + 1)) x6_2 (x6_2.length : Int) x35_3) else (none)) else (none)) = some (r1, r2) := by first | (rw [hji31] at H; exact H) | (simp only [hji31] at H ⊢; exact H)
                   have hji31w : (IntKind.i64.wrap (x35_3 + x11_4)) = ji31 := (i64_w _).trans hji31
                   by_cases c32 : 0 ≤ (ji31)
                   rotate_left
                   · exact none_ (if_neg c32) H
                   rw [if_pos c32] at H
                   have c32b0 : decide (0 ≤ (ji31)) = true := decide_eq_true c32
                   clear c32
                   by_cases c33 : (ji31) < (x8_4.length : Int)
                   rotate_left
                   · exact none_ (if_neg c33) H
                   rw [if_pos c33] at H
                   have c33b0 : decide ((ji31) < (x8_4.length : Int)) = true := decide_eq_true c33
                   clear c33
                   obtain ⟨y298, hy298⟩ : ∃ y_ : List Int, y_ = (x8_4.set ((ji31) : Int).toNat (wrap64 ((rd x8_4 (ji31)) + (rd x6_2 x35_3)))) := ⟨_, rfl⟩
                   replace H : (spec_CountOfDigits.l2 kj26 a0 a1 x7_2 y298 x35_3 (rd x6_2 x35_3) (wrap64 (x11_4 + 1)) x6_2 (x6_2.length : Int) x35_3) = some (r1, r2) := by first | (rw [hy298]; with_reducible exact H) | (have H2_ := (Option.bind_some _ _).symm.trans H; rw [hy298]; with_reducible exact H2_) | (have H2_ := (Option.bind_some _ _).symm.trans H; with_reducible exact H2_) | with_reducible exact H | (rw [hy298]; exact H) | exact H
                   have Ny298 := Aside0.mk hy298
                   clear hy298
                   have H' := Aside0.mk H
                   clear H
                   obtain ⟨Ao35, co35, eo35⟩ := Kd.R_slice HO_8.out
                   subst eo35
                   have p297 : 0 ≤ ((ji31) : Int) := of_decide_eq_true z6_1_
                   have q297 : (ji31) < (x8_4.length : Int) := of_decide_eq_true z6_1_
                   obtain ⟨ad297, e297, hx297_0⟩ := Kd.at_int (Kd.R_reads' HO_8.out).2.2 (ji31) p297 q297
                   cases e297
                   replace p297 := eq_true p297
                   replace q297 := eq_true q297
                   have p34 : 0 ≤ ((ji31) : Int) := of_decide_eq_true z6_1_
                   have q34 : ((ji31) : Int) < ((x8_4.length : Int) : Int) := of_decide_eq_true z6_1_
                   obtain ⟨go34, co34, eo34, gb34, gl34, cl34, HG34⟩ := Kd.R_form HO_8.out (by omega)
                   (first | cases eo34 | (injection eo34 with ea_ en_ ec_; (first | subst ea_ | (injection ea_ with ea_; subst ea_)); subst ec_; clear en_))
                   have GB34 := Aside0.mk gb34
                   have GG34 := Aside0.mk HG34
                   clear gb34 gl34 HG34
                   (first | simp only [add_plain] at hx297_0 | skip)
                   obtain ⟨hx34_0, hf34_0⟩ := Kd.R_celln 0 HO_8.out ((ji31) : Int) p34 q34
                   replace p34 := eq_true p34
                   replace q34 := eq_true q34
                   have HP36 := Kd.R_putg HO_8.out ((ji31) : Int) (wrap64 ((rd x8_4 (ji31)) + (rd x6_2 x35_3)))
                   go_wp2_with (first | ((with_reducible refine gate_store (t := 3) (p := 69) rfl ?_); refine store_event (t := 3) (p := 69) (v := ?vo_w37) (w1 := (wc.setCell ⟨go34, ((ji31) : Int).toNat, none⟩ (.int .i64 (wrap64 ((rd x8_4 (ji31)) + (rd x6_2 x35_3)))))) ?hg ?ho ?hn ?hr ?_; (case ho => rfl); (case hg => rfl); (case hn => rfl); (case hr => first | (go_simp; done) | (go_simp; rfl)); intro w37 hw; have hg : wc.grownBy w37 (some go34) := (by rw [hw]; exact HP36.2); have hp_ : Kd.R (Kd.int .i64) 3 w37 w.heap.size (fun k_ => some k_ ≠ (.slice (some ad296) x6_2.length co23 : Value).ownBlock) (.slice (some ⟨go34, 0, none⟩) x8_4.length co35) y298 := (by rw [hw, Ny298.out]; exact HP36.1); clear HP36; have n0_ := Aside0.mk (hp_); have n1_ := Aside0.mk (Kd.R_after (v := (.slice (some ⟨go34, 0, none⟩) x8_4.length co35)) (v1 := (.slice (some ⟨go34, 0, none⟩) x8_4.length co35)) (ok := (fun _ => True)) z6_4_ hg (.inl rfl)); have n2_ := Aside0.mk ((by rw [hw]; exact below_set (HB.out) GB34.out : Below w.heap.size w w37)); clear HO_8; clear HO_33; clear HB; have HO_8 := n0_; have HO_33 := n1_; have HB := n2_; clear n0_ n1_ n2_; clear hg hw hp_))
                   go_roundg kj26
                   case measure => have := HJ2.out; have := HK2.out; have := HK3.out; have := HK4.out; have := HJ26.out; omega
                   case rel => exact ⟨(y298), (wrap64 (x11_4 + 1)), z6_3_, H', ⟨by have := HJ2.out; have := HK2.out; have := HK3.out; have := HK4.out; have := HJ26.out; omega⟩, ⟨by (with_reducible repeat (first | apply Kd.R_alloc | apply Kd.R_drewN | apply Kd.R_drew)); exact HO_8.out⟩, ⟨by (with_reducible repeat (first | apply Kd.R_alloc | apply Kd.R_drewN | apply Kd.R_drew)); exact Kd.R_mono HO_33.out (fun _ hk => hk.2)⟩, ⟨by repeat (first | (with_reducible first | exact HB.out | apply below_alloc | apply pw_below_drewN | apply below_drew1) | exact HB.out)⟩⟩
                 rw [if_neg c30] at H
                 have c30b0 : decide (0 < x7_2) = false := decide_eq_false c30
                 clear c30
                 by_cases c38 : x11_4 > 0
                 · rw [if_pos c38] at H
                   have c38b0 : decide (0 < x11_4) = true := decide_eq_true c38
                   clear c38
                   obtain ⟨ji39, hji39⟩ : ∃ j_ : Int, (wrap64 (x35_3 + x11_4)) = j_ := ⟨_, rfl⟩
                   replace H : (if 0 ≤ (ji39) then (if (ji39) < (x8_4.length : Int) then (spec_CountOfDigits.l2 kj26 a0 a1 x7_2 (x8_4.set ((ji39) : Int).toNat (wrap64 ((rd x8_4 (ji39)) + (rd x6_2 x35_3)))) x35_3 (rd x6_2 x35_3) (wrap64 (x11_4 + 1)) x6_2 (x6_2.length : Int) x35_3) else (none)) else (none)) = some (r1, r2) := by first | (rw [hji39] at H; exact H) | (simp only [hji39] at H ⊢; exact H)
                   have hji39w : (IntKind.i64.wrap (x35_3 + x11_4)) = ji39 := (i64_w _).trans hji39
                   by_cases c40 : 0 ≤ (ji39)
                   rotate_left
                   · exact none_ (if_neg c40) H
                   rw [if_pos c40] at H
                   have c40b0 : decide (0 ≤ (ji39)) = true := decide_eq_true c40
                   clear c40
                   by_cases c41 : (ji39) < (x8_4.length : Int)
                   rotate_left
                   · exact none_ (if_neg c41) H
                   rw [if_pos c41] at H
                   have c41b0 : decide ((ji39) < (x8_4.length : Int)) = true := decide_eq_true c41
                   clear c41
                   obtain ⟨y300, hy300⟩ : ∃ y_ : List Int, y_ = (x8_4.set ((ji39) : Int).toNat (wrap64 ((rd x8_4 (ji39)) + (rd x6_2 x35_3)))) := ⟨_, rfl⟩
                   replace H : (spec_CountOfDigits.l2 kj26 a0 a1 x7_2 y300 x35_3 (rd x6_2 x35_3) (wrap64 (x11_4 + 1)) x6_2 (x6_2.length : Int) x35_3) = some (r1, r2) := by first | (rw [hy300]; with_reducible exact H) | (have H2_ := (Option.bind_some _ _).symm.trans H; rw [hy300]; with_reducible exact H2_) | (have H2_ := (Option.bind_some _ _).symm.trans H; with_reducible exact H2_) | with_reducible exact H | (rw [hy300]; exact H) | exact H
                   have Ny300 := Aside0.mk hy300
                   clear hy300
                   have H' := Aside0.mk H
                   clear H
                   obtain ⟨Ao43, co43, eo43⟩ := Kd.R_slice HO_8.out
                   subst eo43
                   have p299 : 0 ≤ ((ji39) : Int) := of_decide_eq_true z6_1_
                   have q299 : (ji39) < (x8_4.length : Int) := of_decide_eq_true z6_1_
                   obtain ⟨ad299, e299, hx299_0⟩ := Kd.at_int (Kd.R_reads' HO_8.out).2.2 (ji39) p299 q299
                   cases e299
                   replace p299 := eq_true p299
                   replace q299 := eq_true q299
                   have p42 : 0 ≤ ((ji39) : Int) := of_decide_eq_true z6_1_
                   have q42 : ((ji39) : Int) < ((x8_4.length : Int) : Int) := of_decide_eq_true z6_1_
                   obtain ⟨go42, co42, eo42, gb42, gl42, cl42, HG42⟩ := Kd.R_form HO_8.out (by omega)
                   (first | cases eo42 | (injection eo42 with ea_ en_ ec_; (first | subst ea_ | (injection ea_ with ea_; subst ea_)); subst ec_; clear en_))
                   have GB42 := Aside0.mk gb42
                   have GG42 := Aside0.mk HG42
                   clear gb42 gl42 HG42
                   (first | simp only [add_plain] at hx299_0 | skip)
                   obtain ⟨hx42_0, hf42_0⟩ := Kd.R_celln 0 HO_8.out ((ji39) : Int) p42 q42
                   replace p42 := eq_true p42
                   replace q42 := eq_true q42
                   have HP44 := Kd.R_putg HO_8.out ((ji39) : Int) (wrap64 ((rd x8_4 (ji39)) + (rd x6_2 x35_3)))
                   go_wp2_with (first | ((with_reducible refine gate_store (t := 3) (p := 69) rfl ?_); refine store_event (t := 3) (p := 69) (v := ?vo_w45) (w1 := (wc.setCell ⟨go42, ((ji39) : Int).toNat, none⟩ (.int .i64 (wrap64 ((rd x8_4 (ji39)) + (rd x6_2 x35_3)))))) ?hg ?ho ?hn ?hr ?_; (case ho => rfl); (case hg => rfl); (case hn => rfl); (case hr => first | (go_simp; done) | (go_simp; rfl)); intro w45 hw; have hg : wc.grownBy w45 (some go42) := (by rw [hw]; exact HP44.2); have hp_ : Kd.R (Kd.int .i64) 3 w45 w.heap.size (fun k_ => some k_ ≠ (.slice (some ad296) x6_2.length co23 : Value).ownBlock) (.slice (some ⟨go42, 0, none⟩) x8_4.length co43) y300 := (by rw [hw, Ny300.out]; exact HP44.1); clear HP44; have n0_ := Aside0.mk (hp_); have n1_ := Aside0.mk (Kd.R_after (v := (.slice (some ⟨go42, 0, none⟩) x8_4.length co43)) (v1 := (.slice (some ⟨go42, 0, none⟩) x8_4.length co43)) (ok := (fun _ => True)) z6_4_ hg (.inl rfl)); have n2_ := Aside0.mk ((by rw [hw]; exact below_set (HB.out) GB42.out : Below w.heap.size w w45)); clear HO_8; clear HO_33; clear HB; have HO_8 := n0_; have HO_33 := n1_; have HB := n2_; clear n0_ n1_ n2_; clear hg hw hp_))
                   go_roundg kj26
                   case measure => have := HJ2.out; have := HK2.out; have := HK3.out; have := HK4.out; have := HJ26.out; omega
                   case rel => exact ⟨(y300), (wrap64 (x11_4 + 1)), z6_3_, H', ⟨by have := HJ2.out; have := HK2.out; have := HK3.out; have := HK4.out; have := HJ26.out; omega⟩, ⟨by (with_reducible repeat (first | apply Kd.R_alloc | apply Kd.R_drewN | apply Kd.R_drew)); exact HO_8.out⟩, ⟨by (with_reducible repeat (first | apply Kd.R_alloc | apply Kd.R_drewN | apply Kd.R_drew)); exact Kd.R_mono HO_33.out (fun _ hk => hk.2)⟩, ⟨by repeat (first | (with_reducible first | exact HB.out | apply below_alloc | apply pw_below_drewN | apply below_drew1) | exact HB.out)⟩⟩
                 rw [if_neg c38] at H
                 have c38b0 : decide (0 < x11_4) = false := decide_eq_false c38
                 clear c38
                 by_cases c46 : a0 = 1
                 · rw [if_pos c46] at H
                   have c46b0 : (a0 == 1) = true := beq_iff_eq.mpr c46
                   have c46b1 : (a0 != 1) = false := bne_eq_false_iff_eq.mpr c46
                   clear c46
                   obtain ⟨ji47, hji47⟩ : ∃ j_ : Int, (wrap64 (x35_3 + x11_4)) = j_ := ⟨_, rfl⟩
                   replace H : (if 0 ≤ (ji47) then (if (ji47) < (x8_4.length : Int) then (spec_CountOfDigits.l2 kj26 a0 a1 x7_2 (x8_4.set ((ji47) : Int).toNat (wrap64 ((rd x8_4 (ji47)) + (rd x6_2 x35_3)))) x35_3 (rd x6_2 x35_3) (wrap64 (x11_4 + 1)) x6_2 (x6_2.length : Int) x35_3) else (none)) else (none)) = some (r1, r2) := by first | (rw [hji47] at H; exact H) | (simp only [hji47] at H ⊢; exact H)
                   have hji47w : (IntKind.i64.wrap (x35_3 + x11_4)) = ji47 := (i64_w _).trans hji47
                   by_cases c48 : 0 ≤ (ji47)
                   rotate_left
                   · exact none_ (if_neg c48) H
                   rw [if_pos c48] at H
                   have c48b0 : decide (0 ≤ (ji47)) = true := decide_eq_true c48
                   clear c48
                   by_cases c49 : (ji47) < (x8_4.length : Int)
                   rotate_left
                   · exact none_ (if_neg c49) H
                   rw [if_pos c49] at H
                   have c49b0 : decide ((ji47) < (x8_4.length : Int)) = true := decide_eq_true c49
                   clear c49
                   obtain ⟨y302, hy302⟩ : ∃ y_ : List Int, y_ = (x8_4.set ((ji47) : Int).toNat (wrap64 ((rd x8_4 (ji47)) + (rd x6_2 x35_3)))) := ⟨_, rfl⟩
                   replace H : (spec_CountOfDigits.l2 kj26 a0 a1 x7_2 y302 x35_3 (rd x6_2 x35_3) (wrap64 (x11_4 + 1)) x6_2 (x6_2.length : Int) x35_3) = some (r1, r2) := by first | (rw [hy302]; with_reducible exact H) | (have H2_ := (Option.bind_some _ _).symm.trans H; rw [hy302]; with_reducible exact H2_) | (have H2_ := (Option.bind_some _ _).symm.trans H; with_reducible exact H2_) | with_reducible exact H | (rw [hy302]; exact H) | exact H
                   have Ny302 := Aside0.mk hy302
                   clear hy302
                   have H' := Aside0.mk H
                   clear H
                   obtain ⟨Ao51, co51, eo51⟩ := Kd.R_slice HO_8.out
                   subst eo51
                   have p301 : 0 ≤ ((ji47) : Int) := of_decide_eq_true z6_1_
                   have q301 : (ji47) < (x8_4.length : Int) := of_decide_eq_true z6_1_
                   obtain ⟨ad301, e301, hx301_0⟩ := Kd.at_int (Kd.R_reads' HO_8.out).2.2 (ji47) p301 q301
                   cases e301
                   replace p301 := eq_true p301
                   replace q301 := eq_true q301
                   have p50 : 0 ≤ ((ji47) : Int) := of_decide_eq_true z6_1_
                   have q50 : ((ji47) : Int) < ((x8_4.length : Int) : Int) := of_decide_eq_true z6_1_
                   obtain ⟨go50, co50, eo50, gb50, gl50, cl50, HG50⟩ := Kd.R_form HO_8.out (by omega)
                   (first | cases eo50 | (injection eo50 with ea_ en_ ec_; (first | subst ea_ | (injection ea_ with ea_; subst ea_)); subst ec_; clear en_))
                   have GB50 := Aside0.mk gb50
                   have GG50 := Aside0.mk HG50
                   clear gb50 gl50 HG50
                   (first | simp only [add_plain] at hx301_0 | skip)
                   obtain ⟨hx50_0, hf50_0⟩ := Kd.R_celln 0 HO_8.out ((ji47) : Int) p50 q50
                   replace p50 := eq_true p50
                   replace q50 := eq_true q50
                   have HP52 := Kd.R_putg HO_8.out ((ji47) : Int) (wrap64 ((rd x8_4 (ji47)) + (rd x6_2 x35_3)))
                   go_wp2_with (first | ((with_reducible refine gate_store (t := 3) (p := 69) rfl ?_); refine store_event (t := 3) (p := 69) (v := ?vo_w53) (w1 := (wc.setCell ⟨go50, ((ji47) : Int).toNat, none⟩ (.int .i64 (wrap64 ((rd x8_4 (ji47)) + (rd x6_2 x35_3)))))) ?hg ?ho ?hn ?hr ?_; (case ho => rfl); (case hg => rfl); (case hn => rfl); (case hr => first | (go_simp; done) | (go_simp; rfl)); intro w53 hw; have hg : wc.grownBy w53 (some go50) := (by rw [hw]; exact HP52.2); have hp_ : Kd.R (Kd.int .i64) 3 w53 w.heap.size (fun k_ => some k_ ≠ (.slice (some ad296) x6_2.length co23 : Value).ownBlock) (.slice (some ⟨go50, 0, none⟩) x8_4.length co51) y302 := (by rw [hw, Ny302.out]; exact HP52.1); clear HP52; have n0_ := Aside0.mk (hp_); have n1_ := Aside0.mk (Kd.R_after (v := (.slice (some ⟨go50, 0, none⟩) x8_4.length co51)) (v1 := (.slice (some ⟨go50, 0, none⟩) x8_4.length co51)) (ok := (fun _ => True)) z6_4_ hg (.inl rfl)); have n2_ := Aside0.mk ((by rw [hw]; exact below_set (HB.out) GB50.out : Below w.heap.size w w53)); clear HO_8; clear HO_33; clear HB; have HO_8 := n0_; have HO_33 := n1_; have HB := n2_; clear n0_ n1_ n2_; clear hg hw hp_))
                   go_roundg kj26
                   case measure => have := HJ2.out; have := HK2.out; have := HK3.out; have := HK4.out; have := HJ26.out; omega
                   case rel => exact ⟨(y302), (wrap64 (x11_4 + 1)), z6_3_, H', ⟨by have := HJ2.out; have := HK2.out; have := HK3.out; have := HK4.out; have := HJ26.out; omega⟩, ⟨by (with_reducible repeat (first | apply Kd.R_alloc | apply Kd.R_drewN | apply Kd.R_drew)); exact HO_8.out⟩, ⟨by (with_reducible repeat (first | apply Kd.R_alloc | apply Kd.R_drewN | apply Kd.R_drew)); exact Kd.R_mono HO_33.out (fun _ hk => hk.2)⟩, ⟨by repeat (first | (with_reducible first | exact HB.out | apply below_alloc | apply pw_below_drewN | apply below_drew1) | exact HB.out)⟩⟩
                 rw [if_neg c46] at H
                 have c46b0 : (a0 == 1) = false := beq_eq_false_iff_ne.mpr c46
                 have c46b1 : (a0 != 1) = true := bne_iff_ne.mpr c46
                 have H' := Aside0.mk H
                 clear H
                 go_wp2
                 go_roundg kj26
                 case measure => have := HJ2.out; have := HK2.out; have := HK3.out; have := HK4.out; have := HJ26.out; omega
                 case rel => exact ⟨(x8_4), (wrap64 (x11_4 + 1)), z6_3_, H', ⟨by have := HJ2.out; have := HK2.out; have := HK3.out; have := HK4.out; have := HJ26.out; omega⟩, ⟨by (with_reducible repeat (first | apply Kd.R_alloc | apply Kd.R_drewN | apply Kd.R_drew)); exact HO_8.out⟩, ⟨by (with_reducible repeat (first | apply Kd.R_alloc | apply Kd.R_drewN | apply Kd.R_drew)); exact HO_33.out⟩, ⟨by repeat (first | (with_reducible first | exact HB.out | apply below_alloc | apply pw_below_drewN | apply below_drew1) | exact HB.out)⟩⟩
               replace c29 := Bool.eq_false_iff.mpr c29
               subst c29
               have H1 : (spec_CountOfDigits.l1 kj26 a0 a1 x7_2 x8_4 x6_2 (x6_2.length : Int) (wrap64 (x35_3 + 1))) = some (r1, r2) := by rw [if_neg (show ¬ (false = true) by decide)] at H; exact H
               clear H
               have H := H1
               clear H1
               have H' := Aside0.mk H
               clear H
               go_wp2
               go_roundg kj26
               case measure => have := HJ2.out; have := HK2.out; have := HK3.out; have := HK4.out; have := HJ26.out; omega
               case rel => exact ⟨(x8_4), (wrap64 (x35_3 + 1)), z6_3_, H', ⟨by have := HJ2.out; have := HK2.out; have := HK3.out; have := HK4.out; have := HJ26.out; omega⟩, ⟨by (with_reducible repeat (first | apply Kd.R_alloc | apply Kd.R_drewN | apply Kd.R_drew)); exact HO_8.out⟩, ⟨by (with_reducible repeat (first | apply Kd.R_alloc | apply Kd.R_drewN | apply Kd.R_drew)); exact HO_33.out⟩, ⟨by repeat (first | (with_reducible first | exact HB.out | apply below_alloc | apply pw_below_drewN | apply below_drew1) | exact HB.out)⟩⟩
         rw [if_neg c24] at H
         have c24b0 : decide (x35_3 < (x6_2.length : Int)) = false := decide_eq_false c24
         clear c24
         have H' := Aside0.mk H
         clear H
         go_wp2
         go_roundg k3
         case measure => have := HJ2.out; have := HK2.out; have := HK3.out; omega
         case rel => exact ⟨(x8_3), (wrap64 (x7_2 + 1)), z6_3_, H', ⟨by have := HJ2.out; have := HK2.out; have := HK3.out; omega⟩, ⟨by (with_reducible repeat (first | apply Kd.R_alloc | apply Kd.R_drewN | apply Kd.R_drew)); exact Kd.R_mono HO_8.out (fun _ hk => trivial)⟩, ⟨by repeat (first | (with_reducible first | exact HB.out | apply below_alloc | apply pw_below_drewN | apply below_drew1) | exact HB.out)⟩⟩
     rw [if_neg c17] at H
     have c17b0 : decide (x7_2 < a0) = false := decide_eq_false c17
     clear c17
     by_cases c54 : 0 ≤ a1
     rotate_left
     · exact none_ (if_neg c54) H
     rw [if_pos c54] at H
     have c54b0 : decide (0 ≤ a1) = true := decide_eq_true c54
     clear c54
     by_cases c55 : a1 < (x6_2.length : Int)
     rotate_left
     · exact none_ (if_neg c55) H
     rw [if_pos c55] at H
     have c55b0 : decide (a1 < (x6_2.length : Int)) = true := decide_eq_true c55
     clear c55
     simp only [Option.some.injEq, Prod.mk.injEq] at H
     obtain ⟨rfl, rfl⟩ := H
     obtain ⟨Ao56, co56, eo56⟩ := Kd.R_slice HO_6.out
     subst eo56
     have p292 : 0 ≤ (a1 : Int) := of_decide_eq_true z6_1_
     have q292 : a1 < (x6_2.length : Int) := of_decide_eq_true z6_1_
     obtain ⟨ad292, e292, hx292_0⟩ := Kd.at_int (Kd.R_reads' HO_6.out).2.2 a1 p292 q292
     cases e292
     replace p292 := eq_true p292
     replace q292 := eq_true q292
     go_wp2
     go_ret2
     exact ⟨by first | rfl | (simp [errW_none, errW_some] <;> rfl) | (simp only [← hji8]; first | rfl | (simp [errW_none, errW_some] <;> rfl)) | (simp [*, errW_none, errW_some] <;> rfl), by repeat (first | (with_reducible first | exact HB.out | apply below_alloc | apply pw_below_drewN | apply below_drew1) | exact HB.out)⟩

/-! ### spec_DrawSumDivides: function 22 -/
def spec_DrawSumDivides.f (l0 : List Int) : Option (Int) := (spec_DrawNextWithSum.f l0).bind fun t303 => (some t303)
set_option maxHeartbeats 8000000 in
set_option maxRecDepth 100000 in
theorem spec_DrawSumDivides.calls (A0 : Option Addr) (c0 : Nat) (l0 : List Int) (r : Int) (w : World) (hr0 : Kd.C (Kd.int .u8) w A0 l0.length l0) (hc0 : l0.length ≤ c0) (h : spec_DrawSumDivides.f l0 = some r) :
 Calls Tryz.prog 22 #[.slice A0 l0.length c0] w fun e w' => e = .returned (.int .i64 r) ∧ Below w.heap.size w w' := by
 have HR0 := Aside0.mk hr0
 have HC0 := Aside0.mk hc0
 clear hr0 hc0
 have HB := Aside0.mk (Below.refl w.heap.size w)
 have H : ((spec_DrawNextWithSum.f l0).bind fun t303 => (some t303)) = some r := h
 clear h
 replace H := Option.bind_eq_some_iff.mp H
 obtain ⟨t303, A20, H⟩ := H
 have A2 := Aside0.mk A20
 clear A20
 obtain rfl := Option.some.inj H
 go_enter Tryz.func22, Tryz.ntmps22
 go_wp2_with (first | ((with_reducible refine gate_callee (f := 6) rfl ?_); refine goesL_ (some 4) rfl rfl Tryz.func6 (by kernel_rfl) rfl #[.slice A0 l0.length c0] rfl z6_2_ ?_; (with_reducible refine (spec_DrawNextWithSum.calls _ _ l0 t303 _ ?side1 ?side2 A2.out).mono ?_); (case side1 => repeat (first | exact HR0.out | (with_reducible refine Kd.C_alloc ?_ _) | (with_reducible refine Kd.C_drewN ?_ _) | (with_reducible refine Kd.C_drew ?_))); (case side2 => exact HC0.out); rintro e w3 ⟨rfl, hb⟩; refine ⟨_, rfl, ?_⟩; have n0_ := Aside0.mk (below_step z6_0_ hb); clear HB; have HB := n0_; clear n0_; (try clear hb); (try clear hb2); (try clear hk); (try clear hi)))
 go_ret
 exact ⟨by first | rfl | (simp [errW_none, errW_some] <;> rfl) | (simp [*, errW_none, errW_some] <;> rfl), by repeat (first | (with_reducible first | exact HB.out | apply below_alloc | apply pw_below_drewN | apply below_drew1) | exact HB.out)⟩

/-! ### impl_SumDivides: function 23 -/
def impl_SumDivides.l0 : Nat → Int → Option (Int × Bool)
 | 0, _ => none
 | k + 1, x0 => (impl_digitSum.f k x0).bind fun t305 => (if t305 = 0 then (none) else (if (Int.tmod x0 t305) = 0 then (some (x0, true)) else (impl_SumDivides.l0 k (wrap64 (x0 + 1)))))
def impl_SumDivides.f (k : Nat) (a0 : Int) : Option (Int × Bool) := (impl_isLeast.f a0).bind fun t304 => (if t304 = true then (impl_SumDivides.l0 k (mx a0 1)) else (some (0, false)))
theorem impl_SumDivides.mono_l : ∀ k, (∀ y0, LeO (impl_SumDivides.l0 k y0) (impl_SumDivides.l0 (k + 1) y0))
 | 0 => fun _ r h => by simp [impl_SumDivides.l0] at h
 | k + 1 => by
  have ih0 := impl_SumDivides.mono_l k
  intro y0
  unfold impl_SumDivides.l0
  repeat' first
  | (with_reducible exact ih0 _)
  | (with_reducible exact impl_digitSum.mono _ _)
  | (with_reducible exact LeO.refl _)
  | (with_reducible exact LeO.none _)
  | (with_reducible refine LeO.ite ?_ ?_)
  | (with_reducible refine LeO.bind ?_ (fun _ => ?_))
  | exact ih0 _
  | exact impl_digitSum.mono _ _
  | exact LeO.none _
  | refine LeO.ite ?_ ?_
  | refine LeO.bind ?_ (fun _ => ?_)
theorem impl_SumDivides.mono : ∀ a0 k, LeO (impl_SumDivides.f k a0) (impl_SumDivides.f (k + 1) a0) := by
 intro a0 k
 have ih0 := impl_SumDivides.mono_l k
 unfold impl_SumDivides.f
 repeat' first
  | (with_reducible exact ih0 _)
  | (with_reducible exact impl_digitSum.mono _ _)
  | (with_reducible exact LeO.refl _)
  | (with_reducible exact LeO.none _)
  | (with_reducible refine LeO.ite ?_ ?_)
  | (with_reducible refine LeO.bind ?_ (fun _ => ?_))
  | exact ih0 _
  | exact impl_digitSum.mono _ _
  | exact LeO.none _
  | refine LeO.ite ?_ ?_
  | refine LeO.bind ?_ (fun _ => ?_)
set_option maxHeartbeats 8000000 in
set_option maxRecDepth 100000 in
theorem impl_SumDivides.calls (k : Nat) (a0 : Int) (r1 : Int) (r2 : Bool) (w : World) (hT : Shelf.TabOk w) (h : impl_SumDivides.f k a0 = some (r1, r2)) :
 Calls Tryz.prog 23 #[.int .i64 a0] w fun e w' => e = .returned (.tuple #[.int .i64 r1, .bool r2]) ∧ Below w.heap.size w w' := by
 have HT := Aside0.mk hT
 clear hT
 have HB := Aside0.mk (Below.refl w.heap.size w)
 have H : ((impl_isLeast.f a0).bind fun t304 => (if t304 = true then (impl_SumDivides.l0 k (mx a0 1)) else (some (0, false)))) = some (r1, r2) := h
 clear h
 replace H := Option.bind_eq_some_iff.mp H
 obtain ⟨t304, A20, H⟩ := H
 have A2 := Aside0.mk A20
 clear A20
 by_cases c3 : t304 = true
 · subst c3
   have H1 : (impl_SumDivides.l0 k (mx a0 1)) = some (r1, r2) := by rw [if_pos rfl] at H; exact H
   clear H
   have H := H1
   clear H1
   obtain ⟨ji4, hji4⟩ : ∃ j_ : Int, (mx a0 1) = j_ := ⟨_, rfl⟩
   replace H : (impl_SumDivides.l0 k ji4) = some (r1, r2) := by first | (rw [hji4] at H; exact H) | (simp only [hji4] at H ⊢; exact H)
   (try rw [hji4] at A2)
   (try (have hji4l : 1 ≤ ji4 := by (rw [← hji4]; unfold mx; (repeat' split) <;> omega)))
   (try (have hji4m : 0 ≤ ji4 := by omega))
   have hji4_ : (if a0 < 1 then 1 else a0) = ji4 := hji4
   have H' := Aside0.mk H
   clear H
   go_enter Tryz.func23, Tryz.ntmps23
   go_wp2_with (first | ((with_reducible refine gate_callee (f := 57) rfl ?_); refine goesL_ (some 5) rfl rfl Tryz.func57 (by kernel_rfl) rfl #[.int .i64 a0] rfl z6_2_ ?_; (with_reducible refine (impl_isLeast.calls a0 true _ A2.out).mono ?_); rintro e w' ⟨rfl, ⟨nd, rfl⟩⟩; refine ⟨_, rfl, ?_⟩))
   go_loopg [0] k (fun kq v0 w' => ∃ (x0_1 : Int), v0 = .int .i64 x0_1 ∧ Aside0 (impl_SumDivides.l0 kq x0_1 = some (r1, r2)) ∧ Aside0 (kq ≤ k) ∧ Aside0 (Below w.heap.size w w'))
   case atStart => exact ⟨(ji4), (by first | rfl | (simp; done) | (simp only [← hji4] <;> (first | rfl | simp)) | (simp [*]; done)), H', ⟨Nat.le_refl _⟩, ⟨by repeat (first | (with_reducible first | exact HB.out | apply below_alloc | apply pw_below_drewN | apply below_drew1) | exact HB.out)⟩⟩
   case round =>
    clear H'
    (try clear c2);(try clear p2);(try clear c3)
    obtain ⟨x0_1, rfl, HA, HK1, HB⟩ := hrel
    cases gk with
    | zero => exact absurd HA.out (by simp [impl_SumDivides.l0])
    | succ k1 =>
     have H := HA.out
     clear HA
     simp only [impl_SumDivides.l0] at H
     replace H := Option.bind_eq_some_iff.mp H
     obtain ⟨t305, A50, H⟩ := H
     have A5 := Aside0.mk A50
     clear A50
     by_cases c6 : t305 = 0
     · exact none_ (if_pos c6) H
     rw [if_neg c6] at H
     have c6b0 : (t305 == 0) = false := beq_eq_false_iff_ne.mpr c6
     have c6b1 : (t305 != 0) = true := bne_iff_ne.mpr c6
     by_cases c7 : (Int.tmod x0_1 t305) = 0
     · rw [if_pos c7] at H
       have c7b0 : ((Int.tmod x0_1 t305) == 0) = true := beq_iff_eq.mpr c7
       have c7b1 : ((Int.tmod x0_1 t305) != 0) = false := bne_eq_false_iff_eq.mpr c7
       clear c7
       simp only [Option.some.injEq, Prod.mk.injEq] at H
       obtain ⟨rfl, rfl⟩ := H
       go_wp2_with (first | ((with_reducible refine gate_callee (f := 59) rfl ?_); refine goesL_ (some 11) rfl rfl Tryz.func59 (by kernel_rfl) rfl #[.int .i64 x0_1] rfl z6_2_ ?_; (with_reducible refine (impl_digitSum.calls k1 x0_1 t305 _ ?side1 A5.out).mono ?_); (case side1 => exact Shelf.TabOk.below HT.out z6_0_); rintro e w8 ⟨rfl, hb⟩; refine ⟨_, rfl, ?_⟩; have n0_ := Aside0.mk (below_step z6_0_ hb); clear HB; have HB := n0_; clear n0_; (try clear hb); (try clear hb2); (try clear hk); (try clear hi)))
       go_ret2
       exact ⟨by first | rfl | (simp [errW_none, errW_some] <;> rfl) | (simp only [← hji4]; first | rfl | (simp [errW_none, errW_some] <;> rfl)) | (simp [*, errW_none, errW_some] <;> rfl), by repeat (first | (with_reducible first | exact HB.out | apply below_alloc | apply pw_below_drewN | apply below_drew1) | exact HB.out)⟩
     rw [if_neg c7] at H
     have c7b0 : ((Int.tmod x0_1 t305) == 0) = false := beq_eq_false_iff_ne.mpr c7
     have c7b1 : ((Int.tmod x0_1 t305) != 0) = true := bne_iff_ne.mpr c7
     have H' := Aside0.mk H
     clear H
     go_wp2_with (first | ((with_reducible refine gate_callee (f := 59) rfl ?_); refine goesL_ (some 11) rfl rfl Tryz.func59 (by kernel_rfl) rfl #[.int .i64 x0_1] rfl z6_2_ ?_; (with_reducible refine (impl_digitSum.calls k1 x0_1 t305 _ ?side1 A5.out).mono ?_); (case side1 => exact Shelf.TabOk.below HT.out z6_0_); rintro e w9 ⟨rfl, hb⟩; refine ⟨_, rfl, ?_⟩; have n0_ := Aside0.mk (below_step z6_0_ hb); clear HB; have HB := n0_; clear n0_; (try clear hb); (try clear hb2); (try clear hk); (try clear hi)))
     go_roundg k1
     case measure => have := HK1.out; omega
     case rel => exact ⟨(wrap64 (x0_1 + 1)), z6_3_, H', ⟨by have := HK1.out; omega⟩, ⟨by repeat (first | (with_reducible first | exact HB.out | apply below_alloc | apply pw_below_drewN | apply below_drew1) | exact HB.out)⟩⟩
 replace c3 := Bool.eq_false_iff.mpr c3
 subst c3
 have H1 : (some (0, false)) = some (r1, r2) := by rw [if_neg (show ¬ (false = true) by decide)] at H; exact H
 clear H
 have H := H1
 clear H1
 simp only [Option.some.injEq, Prod.mk.injEq] at H
 obtain ⟨rfl, rfl⟩ := H
 go_enter Tryz.func23, Tryz.ntmps23
 go_wp2_with (first | ((with_reducible refine gate_callee (f := 57) rfl ?_); refine goesL_ (some 5) rfl rfl Tryz.func57 (by kernel_rfl) rfl #[.int .i64 a0] rfl z6_2_ ?_; (with_reducible refine (impl_isLeast.calls a0 false _ A2.out).mono ?_); rintro e w' ⟨rfl, ⟨nd, rfl⟩⟩; refine ⟨_, rfl, ?_⟩))
 go_ret2
 exact ⟨by first | rfl | (simp [errW_none, errW_some] <;> rfl) | (simp [*, errW_none, errW_some] <;> rfl), by repeat (first | (with_reducible first | exact HB.out | apply below_alloc | apply pw_below_drewN | apply below_drew1) | exact HB.out)⟩

end Go.Proofs.YtogonichanoeaaaGreatDoor.PFnLeastOfSums

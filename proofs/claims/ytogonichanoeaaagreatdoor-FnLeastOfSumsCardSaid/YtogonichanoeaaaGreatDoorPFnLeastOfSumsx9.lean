-- Laid by this session's program gprint.py over the kit's print.
import Derived.Test.YtogonichanoeaaaGreatDoorPFnLeastOfSumsx0
import Derived.Test.YtogonichanoeaaaGreatDoorPFnLeastOfSumsx1
import Derived.Test.YtogonichanoeaaaGreatDoorPFnLeastOfSumsx2
import Derived.Test.YtogonichanoeaaaGreatDoorPFnLeastOfSumsx3
import Derived.Test.YtogonichanoeaaaGreatDoorPFnLeastOfSumsx7
import Derived.Test.YtogonichanoeaaaGreatDoorPFnLeastOfSumsx8
namespace Go.Proofs.YtogonichanoeaaaGreatDoor.PFnLeastOfSums
open Go.RowKit Go.Proofs.YtogonichanoeaaaGreatDoorW.PrintWords Go.Proofs.YtogonichanoeaaaGreatDoorW.PrintLast Go.Proofs.YtogonichanoeaaaGreatDoorW.PrintMore
attribute [local go_sem] max2_int min2_int max_two min_two max_three min_three max_four min_four   -- for this text's walks alone
set_option linter.unusedVariables false
set_option linter.unusedSimpArgs false
theorem z9_0_ {p : Prop} (h : p := by (try simp only [List.map_toArray, List.map_cons, List.map_nil]); first | done | rfl | (simp only [List.length_drop, List.length_take]; rfl)) : p := h
theorem z9_1_ {p : Prop} (h : p := by repeat (first | (with_reducible first | exact HB.out | apply below_alloc | apply pw_below_drewN | apply below_drew1) | exact HB.out)) : p := h
theorem z9_2_ {p : Prop} (h : p := by first | rfl | (simp; done) | (simp [*]; done)) : p := h

/-! ### spec_LeastBoth: function 27 -/
mutual
def spec_LeastBoth.j0 : Nat → Int → Int → Bool → Option (Int × Bool)
 | 0, _, _, _ => none
 | k + 1, x0, x1, x16 => if x16 = true then (some (0, false)) else (spec_LeastBoth.l0 k x0 x1 1)
def spec_LeastBoth.l0 : Nat → Int → Int → Int → Option (Int × Bool)
 | 0, _, _, _ => none
 | k + 1, x0, x1, x6 => if x6 ≤ 12 then ((spec_leBoth.f k 0 x6 1 x0 x1).bind fun bt351 => (if bt351.2 = true then (some (bt351.1, true)) else (spec_LeastBoth.l0 k x0 x1 (wrap64 (x6 + 1))))) else (some (0, false))
end
def spec_LeastBoth.f (k : Nat) (a0 : Int) (a1 : Int) : Option (Int × Bool) := (spec_leSum.f a0).bind fun t349 => (if t349 = true then ((spec_l1In.f a1 1 1000000000000).bind fun t350 => (spec_LeastBoth.j0 k a0 a1 (!t350))) else (spec_LeastBoth.j0 k a0 a1 true))
theorem spec_LeastBoth.mono_l : ∀ k, (∀ y0 y1 y2, LeO (spec_LeastBoth.j0 k y0 y1 y2) (spec_LeastBoth.j0 (k + 1) y0 y1 y2)) ∧ (∀ y0 y1 y2, LeO (spec_LeastBoth.l0 k y0 y1 y2) (spec_LeastBoth.l0 (k + 1) y0 y1 y2))
 | 0 => ⟨fun _ _ _ r h => by simp [spec_LeastBoth.j0] at h, fun _ _ _ r h => by simp [spec_LeastBoth.l0] at h⟩
 | k + 1 => by
  obtain ⟨ih0, ih1⟩ := spec_LeastBoth.mono_l k
  refine ⟨?_, ?_⟩
  · intro y0 y1 y2
    unfold spec_LeastBoth.j0
    repeat' first
    | (with_reducible exact ih0 _ _ _)
    | (with_reducible exact ih1 _ _ _)
    | (with_reducible exact spec_leBoth.mono _ _ _ _ _ _)
    | (with_reducible exact LeO.refl _)
    | (with_reducible exact LeO.none _)
    | (with_reducible refine LeO.ite ?_ ?_)
    | (with_reducible refine LeO.bind ?_ (fun _ => ?_))
    | exact ih0 _ _ _
    | exact ih1 _ _ _
    | exact spec_leBoth.mono _ _ _ _ _ _
    | exact LeO.none _
    | refine LeO.ite ?_ ?_
    | refine LeO.bind ?_ (fun _ => ?_)
  intro y0 y1 y2
  unfold spec_LeastBoth.l0
  repeat' first
  | (with_reducible exact ih0 _ _ _)
  | (with_reducible exact ih1 _ _ _)
  | (with_reducible exact spec_leBoth.mono _ _ _ _ _ _)
  | (with_reducible exact LeO.refl _)
  | (with_reducible exact LeO.none _)
  | (with_reducible refine LeO.ite ?_ ?_)
  | (with_reducible refine LeO.bind ?_ (fun _ => ?_))
  | exact ih0 _ _ _
  | exact ih1 _ _ _
  | exact spec_leBoth.mono _ _ _ _ _ _
  | exact LeO.none _
  | refine LeO.ite ?_ ?_
  | refine LeO.bind ?_ (fun _ => ?_)
theorem spec_LeastBoth.mono : ∀ a0 a1 k, LeO (spec_LeastBoth.f k a0 a1) (spec_LeastBoth.f (k + 1) a0 a1) := by
 intro a0 a1 k
 obtain ⟨ih0, ih1⟩ := spec_LeastBoth.mono_l k
 unfold spec_LeastBoth.f
 repeat' first
  | (with_reducible exact ih0 _ _ _)
  | (with_reducible exact ih1 _ _ _)
  | (with_reducible exact spec_leBoth.mono _ _ _ _ _ _)
  | (with_reducible exact LeO.refl _)
  | (with_reducible exact LeO.none _)
  | (with_reducible refine LeO.ite ?_ ?_)
  | (with_reducible refine LeO.bind ?_ (fun _ => ?_))
  | exact ih0 _ _ _
  | exact ih1 _ _ _
  | exact spec_leBoth.mono _ _ _ _ _ _
  | exact LeO.none _
  | refine LeO.ite ?_ ?_
  | refine LeO.bind ?_ (fun _ => ?_)
set_option maxHeartbeats 8000000 in
set_option maxRecDepth 100000 in
theorem spec_LeastBoth.calls (k : Nat) (a0 : Int) (a1 : Int) (r1 : Int) (r2 : Bool) (w : World) (h : spec_LeastBoth.f k a0 a1 = some (r1, r2)) :
 Calls Tryz.prog 27 #[.int .i64 a0, .int .i64 a1] w fun e w' => e = .returned (.tuple #[.int .i64 r1, .bool r2]) ∧ Drawn0 w w' := by
 have H : ((spec_leSum.f a0).bind fun t349 => (if t349 = true then ((spec_l1In.f a1 1 1000000000000).bind fun t350 => (spec_LeastBoth.j0 k a0 a1 (!t350))) else (spec_LeastBoth.j0 k a0 a1 true))) = some (r1, r2) := h
 clear h
 have HC3 := Aside0.mk H
 clear H
 go_enter Tryz.func27, Tryz.ntmps27
 go_upto_region 1 with (fail)
 go_cut [16] (fun v16 wc => ∃ (kq : Nat) (x16_2 : Bool), v16 = .bool x16_2 ∧ Aside0 (spec_LeastBoth.j0 kq a0 a1 x16_2 = some (r1, r2)) ∧ Aside0 (kq ≤ k) ∧ Drawn0 w wc)
 case first =>
  have H := HC3.out
  clear HC3
  replace H := Option.bind_eq_some_iff.mp H
  obtain ⟨t349, A40, H⟩ := H
  have A4 := Aside0.mk A40
  clear A40
  by_cases c5 : t349 = true
  · subst c5
    have H1 : ((spec_l1In.f a1 1 1000000000000).bind fun t350 => (spec_LeastBoth.j0 k a0 a1 (!t350))) = some (r1, r2) := by rw [if_pos rfl] at H; exact H
    clear H
    have H := H1
    clear H1
    replace H := Option.bind_eq_some_iff.mp H
    obtain ⟨t350, A60, H⟩ := H
    have A6 := Aside0.mk A60
    clear A60
    have H' := Aside0.mk H
    clear H
    go_wp2_with (first | ((with_reducible refine gate_callee (f := 67) rfl ?_); refine goesL_ (some 10) rfl rfl Tryz.func67 (by kernel_rfl) rfl #[.int .i64 a0] rfl z9_0_ ?_; (with_reducible refine (spec_leSum.calls a0 true _ A4.out).mono ?_); rintro e w' ⟨rfl, ⟨nd, rfl⟩⟩; refine ⟨_, rfl, ?_⟩) | (go_at_call 77; (with_reducible refine (spec_l1In.calls a1 1 1000000000000 t350 _ A6.out).mono ?_); rintro e w' ⟨rfl, ⟨nd, rfl⟩⟩))
    go_meet
    case rel => exact ⟨_, (!t350), z9_2_, H', ⟨by first | omega | exact Nat.le_refl _⟩, by repeat (first | exact Drawn0.refl _ | apply Drawn0.step)⟩
  replace c5 := Bool.eq_false_iff.mpr c5
  subst c5
  have H1 : (spec_LeastBoth.j0 k a0 a1 true) = some (r1, r2) := by rw [if_neg (show ¬ (false = true) by decide)] at H; exact H
  clear H
  have H := H1
  clear H1
  have H' := Aside0.mk H
  clear H
  go_wp2_with (first | ((with_reducible refine gate_callee (f := 67) rfl ?_); refine goesL_ (some 10) rfl rfl Tryz.func67 (by kernel_rfl) rfl #[.int .i64 a0] rfl z9_0_ ?_; (with_reducible refine (spec_leSum.calls a0 false _ A4.out).mono ?_); rintro e w' ⟨rfl, ⟨nd, rfl⟩⟩; refine ⟨_, rfl, ?_⟩))
  go_meet
  case rel => exact ⟨_, (true), z9_2_, H', ⟨by first | omega | exact Nat.le_refl _⟩, by repeat (first | exact Drawn0.refl _ | apply Drawn0.step)⟩
 case rest =>
  clear HC3
  (try clear c2);(try clear p2);(try clear c5);(try clear c6)
  obtain ⟨kq, x16_2, rfl, HA, HJ2, ⟨mc2, rfl⟩⟩ := hcut
  cases kq with
  | zero => exact absurd HA.out (by simp [spec_LeastBoth.j0])
  | succ kj2 =>
   have H := HA.out
   clear HA
   simp only [spec_LeastBoth.j0] at H
   by_cases c7 : x16_2 = true
   · subst c7
     have H1 : (some (0, false)) = some (r1, r2) := by rw [if_pos rfl] at H; exact H
     clear H
     have H := H1
     clear H1
     simp only [Option.some.injEq, Prod.mk.injEq] at H
     obtain ⟨rfl, rfl⟩ := H
     go_wp2
     go_ret2
     exact ⟨by first | rfl | (simp; done) | (simp [*]; done), by repeat (first | exact Drawn0.refl _ | apply Drawn0.step)⟩
   replace c7 := Bool.eq_false_iff.mpr c7
   subst c7
   have H1 : (spec_LeastBoth.l0 kj2 a0 a1 1) = some (r1, r2) := by rw [if_neg (show ¬ (false = true) by decide)] at H; exact H
   clear H
   have H := H1
   clear H1
   have H' := Aside0.mk H
   clear H
   go_wp2
   go_loopg [6] kj2 (fun kq v6 w' => ∃ (x6_2 : Int), v6 = .int .i64 x6_2 ∧ Aside0 (spec_LeastBoth.l0 kq a0 a1 x6_2 = some (r1, r2)) ∧ Aside0 (kq ≤ kj2) ∧ Drawn0 w w')
   case atStart => exact ⟨(1), z9_2_, H', ⟨Nat.le_refl _⟩, by repeat (first | exact Drawn0.refl _ | apply Drawn0.step)⟩
   case round =>
    clear H'
    (try clear c2);(try clear p2);(try clear c5);(try clear c6);(try clear c7);(try clear p2)
    obtain ⟨x6_2, rfl, HA, HK2, ⟨m2, rfl⟩⟩ := hrel
    cases gk with
    | zero => exact absurd HA.out (by simp [spec_LeastBoth.l0])
    | succ k2 =>
     have H := HA.out
     clear HA
     simp only [spec_LeastBoth.l0] at H
     by_cases c8 : x6_2 ≤ 12
     · rw [if_pos c8] at H
       have c8b0 : decide (x6_2 ≤ 12) = true := decide_eq_true c8
       clear c8
       replace H := Option.bind_eq_some_iff.mp H
       obtain ⟨⟨t351, t352⟩, A90, H⟩ := H
       dsimp only at H
       have A9 := Aside0.mk A90
       clear A90
       by_cases c10 : t352 = true
       · subst c10
         have H1 : (some (t351, true)) = some (r1, r2) := by rw [if_pos rfl] at H; exact H
         clear H
         have H := H1
         clear H1
         simp only [Option.some.injEq, Prod.mk.injEq] at H
         obtain ⟨rfl, rfl⟩ := H
         go_wp2_with (first | ((with_reducible refine gate_callee (f := 84) rfl ?_); refine goesL_ (some 25) rfl rfl Tryz.func84 (by kernel_rfl) rfl #[.int .i64 0, .int .i64 x6_2, .int .i64 1, .int .i64 a0, .int .i64 a1] rfl z9_0_ ?_; (with_reducible refine (spec_leBoth.calls k2 0 x6_2 1 a0 a1 t351 true _ A9.out).mono ?_); rintro e w' ⟨rfl, ⟨nd, rfl⟩⟩; refine ⟨_, rfl, ?_⟩))
         go_ret2
         exact ⟨by first | rfl | (simp; done) | (simp [*]; done), by repeat (first | exact Drawn0.refl _ | apply Drawn0.step)⟩
       replace c10 := Bool.eq_false_iff.mpr c10
       subst c10
       have H1 : (spec_LeastBoth.l0 k2 a0 a1 (wrap64 (x6_2 + 1))) = some (r1, r2) := by rw [if_neg (show ¬ (false = true) by decide)] at H; exact H
       clear H
       have H := H1
       clear H1
       have H' := Aside0.mk H
       clear H
       go_wp2_with (first | ((with_reducible refine gate_callee (f := 84) rfl ?_); refine goesL_ (some 25) rfl rfl Tryz.func84 (by kernel_rfl) rfl #[.int .i64 0, .int .i64 x6_2, .int .i64 1, .int .i64 a0, .int .i64 a1] rfl z9_0_ ?_; (with_reducible refine (spec_leBoth.calls k2 0 x6_2 1 a0 a1 t351 false _ A9.out).mono ?_); rintro e w' ⟨rfl, ⟨nd, rfl⟩⟩; refine ⟨_, rfl, ?_⟩))
       go_roundg k2
       case measure => have := HJ2.out; have := HK2.out; omega
       case rel => exact ⟨(wrap64 (x6_2 + 1)), z9_2_, H', ⟨by have := HJ2.out; have := HK2.out; omega⟩, by repeat (first | exact Drawn0.refl _ | apply Drawn0.step)⟩
     rw [if_neg c8] at H
     have c8b0 : decide (x6_2 ≤ 12) = false := decide_eq_false c8
     clear c8
     simp only [Option.some.injEq, Prod.mk.injEq] at H
     obtain ⟨rfl, rfl⟩ := H
     go_wp2
     go_ret2
     exact ⟨by first | rfl | (simp; done) | (simp [*]; done), by repeat (first | exact Drawn0.refl _ | apply Drawn0.step)⟩

/-! ### impl_isWritten: function 119 -/
def impl_isWritten.f (a0 : Int) : Option (Bool) := (impl_within.f a0 0 1000000000000).bind fun t353 => (some t353)
set_option maxHeartbeats 8000000 in
set_option maxRecDepth 100000 in
theorem impl_isWritten.calls (a0 : Int) (r : Bool) (w : World) (h : impl_isWritten.f a0 = some r) :
 Calls Tryz.prog 119 #[.int .i64 a0] w fun e w' => e = .returned (.bool r) ∧ Drawn0 w w' := by
 have H : ((impl_within.f a0 0 1000000000000).bind fun t353 => (some t353)) = some r := h
 clear h
 replace H := Option.bind_eq_some_iff.mp H
 obtain ⟨t353, A20, H⟩ := H
 have A2 := Aside0.mk A20
 clear A20
 obtain rfl := Option.some.inj H
 go_enter Tryz.func119, Tryz.ntmps119
 go_wp2_with (first | ((with_reducible refine gate_callee (f := 73) rfl ?_); refine goesL_ (some 4) rfl rfl Tryz.func73 (by kernel_rfl) rfl #[.int .i64 a0, .int .i64 0, .int .i64 1000000000000] rfl z9_0_ ?_; (with_reducible refine (impl_within.calls a0 0 1000000000000 t353 _ A2.out).mono ?_); rintro e w' ⟨rfl, ⟨nd, rfl⟩⟩; refine ⟨_, rfl, ?_⟩))
 go_ret
 exact ⟨by first | rfl | (simp; done) | (simp [*]; done), by repeat (first | exact Drawn0.refl _ | apply Drawn0.step)⟩

/-! ### impl_digitProduct: function 120 -/
-- behind 87
def impl_digitProduct.l0 : Nat → List Int → Int → Int → Option Int
 | 0, _, _, _ => none
 | k + 1, xs, out, i => if i < (xs.length : Int) then (if 0 ≤ i then impl_digitProduct.l0 k xs (wrap64 (out * (((rd xs i) - 48) % 256))) (wrap64 (i + 1)) else none) else some out
def impl_digitProduct.f (k : Nat) (a0 : Int) : Option Int := (strconv_Itoa.f a0).bind fun t => (if t.size ≤ 1048576 then impl_digitProduct.l0 k (bytesOf t) 1 0 else none)
theorem impl_digitProduct.mono_0 : ∀ k xs out i, LeO (impl_digitProduct.l0 k xs out i) (impl_digitProduct.l0 (k + 1) xs out i)
 | 0 => fun _ _ _ r h => by simp [impl_digitProduct.l0] at h
 | k + 1 => fun xs out i => by
  have ih := impl_digitProduct.mono_0 k
  unfold impl_digitProduct.l0
  exact LeO.ite (LeO.ite (ih _ _ _) (LeO.none _)) (LeO.refl _)
theorem impl_digitProduct.mono : ∀ a0 k, LeO (impl_digitProduct.f k a0) (impl_digitProduct.f (k + 1) a0) := by
 intro a0 k
 unfold impl_digitProduct.f
 exact LeO.bind (LeO.refl _) (fun _ => LeO.ite (impl_digitProduct.mono_0 _ _ _ _) (LeO.refl _))
set_option maxHeartbeats 8000000 in
set_option maxRecDepth 100000 in
open Bytes in
theorem impl_digitProduct.calls (k : Nat) (a0 : Int) (r : Int) (w : World) (hT : Shelf.TabOk w) (h : impl_digitProduct.f k a0 = some r) :
 Calls Tryz.prog 120 #[.int .i64 a0] w fun e w' => e = .returned (.int .i64 r) ∧ Below w.heap.size w w' := by
 have HT := Aside0.mk hT
 clear hT
 unfold impl_digitProduct.f at h
 obtain ⟨t, ht, h⟩ := Option.bind_eq_some_iff.mp h
 by_cases hz : t.size ≤ 1048576
 rotate_left
 · exact none_ (if_neg hz) h
 rw [if_pos hz] at h
 have A1 := Aside0.mk ht
 have hbl : (bytesOf t).length = t.size := (bytes_reads w 5 t (by omega)).1
 have H' := Aside0.mk h
 have HZ := Aside0.mk hz
 have HN : Aside0 ((bytesOf t).length = t.size) := ⟨hbl⟩
 have HB0 := Aside0.mk (Below.refl w.heap.size w)
 clear h hz hbl ht
 go_enter Tryz.func120, Tryz.ntmps120
 go_wp2_with (first | (go_at_call 87; (with_reducible refine (strconv_Itoa.calls a0 t _ HT.out A1.out).mono ?_); rintro e w6 ⟨rfl, hb⟩; have HB6 := Aside0.mk (below_step HB0.out hb); clear hb; have hcv := Lib.run_convert_string_bytes (P := Tryz.prog) w6 9 22 5 t (u := .string) Tryz.underlying9 Tryz.underlying22 Tryz.underlying5; have hgr := grown_le w6 t.size 5 (by have := HZ.out; omega); have hm := MR_conv w6 5 t (by have := HZ.out; omega) w6.heap.size (Nat.le_refl _) hgr.2 hgr.1; have HBV := Aside0.mk (bytes_below (Below.refl w6.heap.size w6) (Nat.le_refl _) 5 t); generalize Lib.bytesWorld w6 5 t = w7 at hm HBV hcv; generalize grownCap w6 t.size 0 5 = cap at hm hcv; have HM := Aside0.mk hm; clear hm hgr))
 go_loopg [3, 10] k (fun kq v3 v10 w' => ∃ (x i : Int), v3 = .int .i64 x ∧ v10 = .int .i64 i ∧ Aside0 (impl_digitProduct.l0 kq (bytesOf t) x i = some r) ∧ Aside0 (MR 5 w' w6.heap.size (fun _ => True) (.slice (some ⟨w6.heap.size, 0, none⟩) t.size cap) (bytesOf t)) ∧ Aside0 (Below w6.heap.size w6 w'))
 case atStart => exact ⟨1, 0, rfl, rfl, H', HM, HBV⟩
 case round =>
  clear H' HM HBV A1
  (try clear hcv)
  obtain ⟨x, i, rfl, rfl, HA, HO, HB⟩ := hrel
  cases gk with
  | zero => exact absurd HA.out (by simp [impl_digitProduct.l0])
  | succ k1 =>
   have H := HA.out
   clear HA
   simp only [impl_digitProduct.l0] at H
   by_cases c1 : i < ((bytesOf t).length : Int)
   · rw [if_pos c1] at H
     by_cases c2 : 0 ≤ i
     rotate_left
     · exact none_ (if_neg c2) H
     rw [if_pos c2] at H
     have q1 : i < (t.size : Int) := by rw [← HN.out]; exact c1
     have H' := Aside0.mk H
     clear H
     obtain ⟨hx18_0, hf18_0⟩ := MR_celln 0 HO.out i c2 q1
     have c1b0 : decide (i < (t.size : Int)) = true := decide_eq_true q1
     replace p18 := eq_true c2
     replace q18 := eq_true q1
     clear c1 c2 q1
     go_wp2
     go_roundg k1
     case measure => omega
     case rel => exact ⟨_, wrap64 (i + 1), rfl, rfl, H', HO, HB⟩
   rw [if_neg c1] at H
   have c1b0 : decide (i < (t.size : Int)) = false := decide_eq_false (by rw [← HN.out]; exact c1)
   obtain rfl := Option.some.inj H
   clear H c1
   go_wp2
   go_ret
   exact ⟨rfl, below_step HB6.out HB.out⟩

/-! ### impl_DigitProduct: function 85 -/
def impl_DigitProduct.f (k : Nat) (a0 : Int) : Option (Int × Bool) := (impl_isWritten.f a0).bind fun t354 => (if t354 = true then ((impl_digitProduct.f k a0).bind fun t355 => (some (t355, true))) else (some (0, false)))
theorem impl_DigitProduct.mono : ∀ a0 k, LeO (impl_DigitProduct.f k a0) (impl_DigitProduct.f (k + 1) a0) := by
 intro a0 k
 unfold impl_DigitProduct.f
 repeat' first
  | (with_reducible exact impl_digitProduct.mono _ _)
  | (with_reducible exact LeO.refl _)
  | (with_reducible exact LeO.none _)
  | (with_reducible refine LeO.ite ?_ ?_)
  | (with_reducible refine LeO.bind ?_ (fun _ => ?_))
  | exact impl_digitProduct.mono _ _
  | exact LeO.none _
  | refine LeO.ite ?_ ?_
  | refine LeO.bind ?_ (fun _ => ?_)
set_option maxHeartbeats 8000000 in
set_option maxRecDepth 100000 in
theorem impl_DigitProduct.calls (k : Nat) (a0 : Int) (r1 : Int) (r2 : Bool) (w : World) (hT : Shelf.TabOk w) (h : impl_DigitProduct.f k a0 = some (r1, r2)) :
 Calls Tryz.prog 85 #[.int .i64 a0] w fun e w' => e = .returned (.tuple #[.int .i64 r1, .bool r2]) ∧ Below w.heap.size w w' := by
 have HT := Aside0.mk hT
 clear hT
 have HB := Aside0.mk (Below.refl w.heap.size w)
 have H : ((impl_isWritten.f a0).bind fun t354 => (if t354 = true then ((impl_digitProduct.f k a0).bind fun t355 => (some (t355, true))) else (some (0, false)))) = some (r1, r2) := h
 clear h
 replace H := Option.bind_eq_some_iff.mp H
 obtain ⟨t354, A20, H⟩ := H
 have A2 := Aside0.mk A20
 clear A20
 by_cases c3 : t354 = true
 · subst c3
   have H1 : ((impl_digitProduct.f k a0).bind fun t355 => (some (t355, true))) = some (r1, r2) := by rw [if_pos rfl] at H; exact H
   clear H
   have H := H1
   clear H1
   replace H := Option.bind_eq_some_iff.mp H
   obtain ⟨t355, A40, H⟩ := H
   have A4 := Aside0.mk A40
   clear A40
   simp only [Option.some.injEq, Prod.mk.injEq] at H
   obtain ⟨rfl, rfl⟩ := H
   go_enter Tryz.func85, Tryz.ntmps85
   go_wp2_with (first | ((with_reducible refine gate_callee (f := 119) rfl ?_); refine goesL_ (some 5) rfl rfl Tryz.func119 (by kernel_rfl) rfl #[.int .i64 a0] rfl z9_0_ ?_; (with_reducible refine (impl_isWritten.calls a0 true _ A2.out).mono ?_); rintro e w' ⟨rfl, ⟨nd, rfl⟩⟩; refine ⟨_, rfl, ?_⟩) | ((with_reducible refine gate_callee (f := 120) rfl ?_); refine goesL_ (some 8) rfl rfl Tryz.func120 (by kernel_rfl) rfl #[.int .i64 a0] rfl z9_0_ ?_; (with_reducible refine (impl_digitProduct.calls k a0 t355 _ ?side1 A4.out).mono ?_); (case side1 => exact Shelf.TabOk.below HT.out z9_1_); rintro e w5 ⟨rfl, hb⟩; refine ⟨_, rfl, ?_⟩; have n0_ := Aside0.mk (below_step z9_1_ hb); clear HB; have HB := n0_; clear n0_; (try clear hb); (try clear hb2); (try clear hk); (try clear hi)))
   go_ret2
   exact ⟨by first | rfl | (simp [errW_none, errW_some] <;> rfl) | (simp [*, errW_none, errW_some] <;> rfl), by repeat (first | (with_reducible first | exact HB.out | apply below_alloc | apply pw_below_drewN | apply below_drew1) | exact HB.out)⟩
 replace c3 := Bool.eq_false_iff.mpr c3
 subst c3
 have H1 : (some (0, false)) = some (r1, r2) := by rw [if_neg (show ¬ (false = true) by decide)] at H; exact H
 clear H
 have H := H1
 clear H1
 simp only [Option.some.injEq, Prod.mk.injEq] at H
 obtain ⟨rfl, rfl⟩ := H
 go_enter Tryz.func85, Tryz.ntmps85
 go_wp2_with (first | ((with_reducible refine gate_callee (f := 119) rfl ?_); refine goesL_ (some 5) rfl rfl Tryz.func119 (by kernel_rfl) rfl #[.int .i64 a0] rfl z9_0_ ?_; (with_reducible refine (impl_isWritten.calls a0 false _ A2.out).mono ?_); rintro e w' ⟨rfl, ⟨nd, rfl⟩⟩; refine ⟨_, rfl, ?_⟩))
 go_ret2
 exact ⟨by first | rfl | (simp [errW_none, errW_some] <;> rfl) | (simp [*, errW_none, errW_some] <;> rfl), by repeat (first | (with_reducible first | exact HB.out | apply below_alloc | apply pw_below_drewN | apply below_drew1) | exact HB.out)⟩

/-! ### impl_ProductOfDigits: function 28 -/
def impl_ProductOfDigits.f (k : Nat) (a0 : Int) : Option (Int × Bool) := (impl_DigitProduct.f k a0).bind fun bt356 => (some (bt356.1, bt356.2))
theorem impl_ProductOfDigits.mono : ∀ a0 k, LeO (impl_ProductOfDigits.f k a0) (impl_ProductOfDigits.f (k + 1) a0) := by
 intro a0 k
 unfold impl_ProductOfDigits.f
 repeat' first
  | (with_reducible exact impl_DigitProduct.mono _ _)
  | (with_reducible exact LeO.refl _)
  | (with_reducible exact LeO.none _)
  | (with_reducible refine LeO.ite ?_ ?_)
  | (with_reducible refine LeO.bind ?_ (fun _ => ?_))
  | exact impl_DigitProduct.mono _ _
  | exact LeO.none _
  | refine LeO.ite ?_ ?_
  | refine LeO.bind ?_ (fun _ => ?_)
set_option maxHeartbeats 8000000 in
set_option maxRecDepth 100000 in
theorem impl_ProductOfDigits.calls (k : Nat) (a0 : Int) (r1 : Int) (r2 : Bool) (w : World) (hT : Shelf.TabOk w) (h : impl_ProductOfDigits.f k a0 = some (r1, r2)) :
 Calls Tryz.prog 28 #[.int .i64 a0] w fun e w' => e = .returned (.tuple #[.int .i64 r1, .bool r2]) ∧ Below w.heap.size w w' := by
 have HT := Aside0.mk hT
 clear hT
 have HB := Aside0.mk (Below.refl w.heap.size w)
 have H : ((impl_DigitProduct.f k a0).bind fun bt356 => (some (bt356.1, bt356.2))) = some (r1, r2) := h
 clear h
 replace H := Option.bind_eq_some_iff.mp H
 obtain ⟨⟨t356, t357⟩, A20, H⟩ := H
 dsimp only at H
 have A2 := Aside0.mk A20
 clear A20
 simp only [Option.some.injEq, Prod.mk.injEq] at H
 obtain ⟨rfl, rfl⟩ := H
 go_enter Tryz.func28, Tryz.ntmps28
 go_wp2_with (first | ((with_reducible refine gate_callee (f := 85) rfl ?_); refine goesL_ (some 5) rfl rfl Tryz.func85 (by kernel_rfl) rfl #[.int .i64 a0] rfl z9_0_ ?_; (with_reducible refine (impl_DigitProduct.calls k a0 t356 t357 _ ?side1 A2.out).mono ?_); (case side1 => exact Shelf.TabOk.below HT.out z9_1_); rintro e w3 ⟨rfl, hb⟩; refine ⟨_, rfl, ?_⟩; have n0_ := Aside0.mk (below_step z9_1_ hb); clear HB; have HB := n0_; clear n0_; (try clear hb); (try clear hb2); (try clear hk); (try clear hi)))
 go_ret2
 exact ⟨by first | rfl | (simp [errW_none, errW_some] <;> rfl) | (simp [*, errW_none, errW_some] <;> rfl), by repeat (first | (with_reducible first | exact HB.out | apply below_alloc | apply pw_below_drewN | apply below_drew1) | exact HB.out)⟩

/-! ### impl_LeastWithProduct: function 29 -/
-- behind 81 79
mutual
def impl_LeastWithProduct.l0 : Nat → Int → List Int → Int → Option (Int × Bool)
 | 0, _, _, _ => none
 | k + 1, x0, x4, x5 => if x5 > 1 then (impl_LeastWithProduct.l1 k x0 x4 x5) else (if x0 > 1 then (some (0, false)) else if x4.length < 4611686018427387904 then ((impl_asLeast.f k x4).bind fun bt362 => (some (bt362.1, bt362.2))) else none)
def impl_LeastWithProduct.l1 : Nat → Int → List Int → Int → Option (Int × Bool)
 | 0, _, _, _ => none
 | k + 1, x0, x4, x5 => if x5 = 0 then (none) else (if (Int.tmod x0 x5) = 0 then (if x4.length < 140737488355328 then (impl_LeastWithProduct.l1 k (wrap64 (Int.tdiv x0 x5)) (x4 ++ [(wrap64 (48 + x5)) % 256]) x5) else (none)) else (impl_LeastWithProduct.l0 k x0 x4 (wrap64 (x5 - 1))))
end
def impl_LeastWithProduct.f (k : Nat) (a0 : Int) : Option (Int × Bool) := (impl_isProduct.f a0).bind fun t358 => (if t358 = true then (if a0 = 1 then (some (1, true)) else (impl_LeastWithProduct.l0 k a0 (([] : List Int)) 9)) else (some (0, false)))
theorem impl_LeastWithProduct.mono_l : ∀ k, (∀ y0 y1 y2, LeO (impl_LeastWithProduct.l0 k y0 y1 y2) (impl_LeastWithProduct.l0 (k + 1) y0 y1 y2)) ∧ (∀ y0 y1 y2, LeO (impl_LeastWithProduct.l1 k y0 y1 y2) (impl_LeastWithProduct.l1 (k + 1) y0 y1 y2))
 | 0 => ⟨fun _ _ _ r h => by simp [impl_LeastWithProduct.l0] at h, fun _ _ _ r h => by simp [impl_LeastWithProduct.l1] at h⟩
 | k + 1 => by
  obtain ⟨ih0, ih1⟩ := impl_LeastWithProduct.mono_l k
  refine ⟨?_, ?_⟩
  · intro y0 y1 y2
    unfold impl_LeastWithProduct.l0
    repeat' first
    | (with_reducible exact ih0 _ _ _)
    | (with_reducible exact ih1 _ _ _)
    | (with_reducible exact impl_asLeast.mono _ _)
    | (with_reducible exact LeO.refl _)
    | (with_reducible exact LeO.none _)
    | (with_reducible refine LeO.ite ?_ ?_)
    | (with_reducible refine LeO.bind ?_ (fun _ => ?_))
    | exact ih0 _ _ _
    | exact ih1 _ _ _
    | exact impl_asLeast.mono _ _
    | exact LeO.none _
    | refine LeO.ite ?_ ?_
    | refine LeO.bind ?_ (fun _ => ?_)
  intro y0 y1 y2
  unfold impl_LeastWithProduct.l1
  repeat' first
  | (with_reducible exact ih0 _ _ _)
  | (with_reducible exact ih1 _ _ _)
  | (with_reducible exact impl_asLeast.mono _ _)
  | (with_reducible exact LeO.refl _)
  | (with_reducible exact LeO.none _)
  | (with_reducible refine LeO.ite ?_ ?_)
  | (with_reducible refine LeO.bind ?_ (fun _ => ?_))
  | exact ih0 _ _ _
  | exact ih1 _ _ _
  | exact impl_asLeast.mono _ _
  | exact LeO.none _
  | refine LeO.ite ?_ ?_
  | refine LeO.bind ?_ (fun _ => ?_)
theorem impl_LeastWithProduct.mono : ∀ a0 k, LeO (impl_LeastWithProduct.f k a0) (impl_LeastWithProduct.f (k + 1) a0) := by
 intro a0 k
 obtain ⟨ih0, ih1⟩ := impl_LeastWithProduct.mono_l k
 unfold impl_LeastWithProduct.f
 repeat' first
  | (with_reducible exact ih0 _ _ _)
  | (with_reducible exact ih1 _ _ _)
  | (with_reducible exact impl_asLeast.mono _ _)
  | (with_reducible exact LeO.refl _)
  | (with_reducible exact LeO.none _)
  | (with_reducible refine LeO.ite ?_ ?_)
  | (with_reducible refine LeO.bind ?_ (fun _ => ?_))
  | exact ih0 _ _ _
  | exact ih1 _ _ _
  | exact impl_asLeast.mono _ _
  | exact LeO.none _
  | refine LeO.ite ?_ ?_
  | refine LeO.bind ?_ (fun _ => ?_)
set_option maxHeartbeats 8000000 in
set_option maxRecDepth 100000 in
theorem impl_LeastWithProduct.calls (k : Nat) (a0 : Int) (r1 : Int) (r2 : Bool) (w : World) (h : impl_LeastWithProduct.f k a0 = some (r1, r2)) :
 Calls Tryz.prog 29 #[.int .i64 a0] w fun e w' => e = .returned (.tuple #[.int .i64 r1, .bool r2]) ∧ Below w.heap.size w w' := by
 have HB := Aside0.mk (Below.refl w.heap.size w)
 have H : ((impl_isProduct.f a0).bind fun t358 => (if t358 = true then (if a0 = 1 then (some (1, true)) else (impl_LeastWithProduct.l0 k a0 (([] : List Int)) 9)) else (some (0, false)))) = some (r1, r2) := h
 clear h
 replace H := Option.bind_eq_some_iff.mp H
 obtain ⟨t358, A20, H⟩ := H
 have A2 := Aside0.mk A20
 clear A20
 by_cases c3 : t358 = true
 · subst c3
   have H1 : (if a0 = 1 then (some (1, true)) else (impl_LeastWithProduct.l0 k a0 (([] : List Int)) 9)) = some (r1, r2) := by rw [if_pos rfl] at H; exact H
   clear H
   have H := H1
   clear H1
   by_cases c4 : a0 = 1
   · rw [if_pos c4] at H
     have c4b0 : (a0 == 1) = true := beq_iff_eq.mpr c4
     have c4b1 : (a0 != 1) = false := bne_eq_false_iff_eq.mpr c4
     clear c4
     simp only [Option.some.injEq, Prod.mk.injEq] at H
     obtain ⟨rfl, rfl⟩ := H
     go_enter Tryz.func29, Tryz.ntmps29
     go_wp2_with (first | ((with_reducible refine gate_callee (f := 79) rfl ?_); refine goesL_ (some 7) rfl rfl Tryz.func79 (by kernel_rfl) rfl #[.int .i64 a0] rfl z9_0_ ?_; (with_reducible refine (impl_isProduct.calls a0 true _ A2.out).mono ?_); rintro e w' ⟨rfl, ⟨nd, rfl⟩⟩; refine ⟨_, rfl, ?_⟩))
     go_ret2
     exact ⟨by first | rfl | (simp [errW_none, errW_some] <;> rfl) | (simp [*, errW_none, errW_some] <;> rfl), by repeat (first | (with_reducible first | exact HB.out | apply below_alloc | apply pw_below_drewN | apply below_drew1) | exact HB.out)⟩
   rw [if_neg c4] at H
   have c4b0 : (a0 == 1) = false := beq_eq_false_iff_ne.mpr c4
   have c4b1 : (a0 != 1) = true := bne_iff_ne.mpr c4
   obtain ⟨y359, hy359⟩ : ∃ y_ : List Int, y_ = (([] : List Int)) := ⟨_, rfl⟩
   replace H : (impl_LeastWithProduct.l0 k a0 y359 9) = some (r1, r2) := by first | (rw [hy359]; with_reducible exact H) | (have H2_ := (Option.bind_some _ _).symm.trans H; rw [hy359]; with_reducible exact H2_) | (have H2_ := (Option.bind_some _ _).symm.trans H; with_reducible exact H2_) | with_reducible exact H | (rw [hy359]; exact H) | exact H
   have Ny359 := Aside0.mk hy359
   clear hy359
   have H' := Aside0.mk H
   clear H
   go_enter Tryz.func29, Tryz.ntmps29
   go_wp2_with (first | ((with_reducible refine gate_callee (f := 79) rfl ?_); refine goesL_ (some 7) rfl rfl Tryz.func79 (by kernel_rfl) rfl #[.int .i64 a0] rfl z9_0_ ?_; (with_reducible refine (impl_isProduct.calls a0 true _ A2.out).mono ?_); rintro e w' ⟨rfl, ⟨nd, rfl⟩⟩; refine ⟨_, rfl, ?_⟩) | ((with_reducible refine gate_dst (N := 11) rfl ?_); refine Kd.R_lit (Kd.int .u8) _ 5 ?hg (N := 11) ?hd (xs := ([] : List Int)) (inner := []) (ok := fun _ => True) (okp := fun _ => True) ?hr ?hp (fun _ hk => hk) trivial (Below.refl _ _) (Nat.le_refl _) (by simp) ?_; (case hd => rfl); (case hg => rfl); (case hr => first | (go_simp; done) | (go_simp; rfl)); (case hp => exact (Reps.none _ _)); intro v360 w5 ho6 hb hg_ hnew_; clear hg_ hnew_; (first | rw [← Ny359.out] at ho6 | (simp only [Int.reduceToNat] at ho6; rw [← Ny359.out] at ho6)); have n0_ := Aside0.mk (Kd.R_lower ho6 (below_size z9_1_)); have n1_ := Aside0.mk (below_step z9_1_ hb); clear HB; have HO361 := n0_; have HB := n1_; clear n0_ n1_; clear hb ho6))
   go_loopg [0, 4, 5] k (fun kq v0 v4 v5 w' => ∃ (x0_1 : Int) (x4_1 : List Int) (x5_1 : Int), v0 = .int .i64 x0_1 ∧ v5 = .int .i64 x5_1 ∧ Aside0 (impl_LeastWithProduct.l0 kq x0_1 x4_1 x5_1 = some (r1, r2)) ∧ Aside0 (kq ≤ k) ∧ Aside0 (Kd.R (Kd.int .u8) 5 w' w.heap.size (fun _ => True) v4 x4_1) ∧ Aside0 (Below w.heap.size w w'))
   case atStart => exact ⟨(a0), (y359), (9), z9_2_, z9_2_, H', ⟨Nat.le_refl _⟩, ⟨by (with_reducible repeat (first | apply Kd.R_alloc | apply Kd.R_drewN | apply Kd.R_drew)); exact HO361.out⟩, ⟨by repeat (first | (with_reducible first | exact HB.out | apply below_alloc | apply pw_below_drewN | apply below_drew1) | exact HB.out)⟩⟩
   case round =>
    clear H'
    (try clear c2);(try clear p2);(try clear c3);(try clear c4);(try clear c4b0);(try clear c4b1)
    obtain ⟨x0_1, x4_1, x5_1, rfl, rfl, HA, HK1, HO_4, HB⟩ := hrel
    cases gk with
    | zero => exact absurd HA.out (by simp [impl_LeastWithProduct.l0])
    | succ k1 =>
     have H := HA.out
     clear HA
     simp only [impl_LeastWithProduct.l0] at H
     by_cases c7 : x5_1 > 1
     · rw [if_pos c7] at H
       have c7b0 : decide (1 < x5_1) = true := decide_eq_true c7
       clear c7
       have H' := Aside0.mk H
       clear H
       go_wp2
       go_loopg [0, 4] k1 (fun kq v0 v4 w' => ∃ (x0_2 : Int) (x4_2 : List Int), v0 = .int .i64 x0_2 ∧ Aside0 (impl_LeastWithProduct.l1 kq x0_2 x4_2 x5_1 = some (r1, r2)) ∧ Aside0 (kq ≤ k1) ∧ Aside0 (Kd.R (Kd.int .u8) 5 w' w.heap.size (fun _ => True) v4 x4_2) ∧ Aside0 (Below w.heap.size w w'))
       case atStart => exact ⟨(x0_1), (x4_1), z9_2_, H', ⟨Nat.le_refl _⟩, ⟨by (with_reducible repeat (first | apply Kd.R_alloc | apply Kd.R_drewN | apply Kd.R_drew)); exact HO_4.out⟩, ⟨by repeat (first | (with_reducible first | exact HB.out | apply below_alloc | apply pw_below_drewN | apply below_drew1) | exact HB.out)⟩⟩
       case round =>
        clear H'
        (try clear c2);(try clear p2);(try clear c3);(try clear c4);(try clear c4b0);(try clear c4b1);(try clear c7);(try clear c7b0);(try clear p2)
        obtain ⟨x0_2, x4_2, rfl, HA, HK2, HO_4, HB⟩ := hrel
        cases gk with
        | zero => exact absurd HA.out (by simp [impl_LeastWithProduct.l1])
        | succ k2 =>
         have H := HA.out
         clear HA
         simp only [impl_LeastWithProduct.l1] at H
         by_cases c8 : x5_1 = 0
         · exact none_ (if_pos c8) H
         rw [if_neg c8] at H
         have c8b0 : (x5_1 == 0) = false := beq_eq_false_iff_ne.mpr c8
         have c8b1 : (x5_1 != 0) = true := bne_iff_ne.mpr c8
         by_cases c9 : (Int.tmod x0_2 x5_1) = 0
         · rw [if_pos c9] at H
           have c9b0 : ((Int.tmod x0_2 x5_1) == 0) = true := beq_iff_eq.mpr c9
           have c9b1 : ((Int.tmod x0_2 x5_1) != 0) = false := bne_eq_false_iff_eq.mpr c9
           clear c9
           by_cases c10 : x4_2.length < 140737488355328
           rotate_left
           · exact none_ (if_neg c10) H
           rw [if_pos c10] at H
           have LMc10 := Aside0.mk c10
           clear c10
           obtain ⟨y364, hy364⟩ : ∃ y_ : List Int, y_ = (x4_2 ++ [(wrap64 (48 + x5_1)) % 256]) := ⟨_, rfl⟩
           replace H : (impl_LeastWithProduct.l1 k2 (wrap64 (Int.tdiv x0_2 x5_1)) y364 x5_1) = some (r1, r2) := by first | (rw [hy364]; with_reducible exact H) | (have H2_ := (Option.bind_some _ _).symm.trans H; rw [hy364]; with_reducible exact H2_) | (have H2_ := (Option.bind_some _ _).symm.trans H; with_reducible exact H2_) | with_reducible exact H | (rw [hy364]; exact H) | exact H
           have Ny364 := Aside0.mk hy364
           clear hy364
           have H' := Aside0.mk H
           clear H
           go_wp2_with (first | ((with_reducible refine gate_builtin (b := .append) (xs := #[.tmp 20, .tmp 24]) rfl ?_); at_builtin; refine Kd.R_append (Kd.int .u8) (w0 := w) w.heap.size rfl (.tmp 20) (.tmp 24) 22 5 (.int .u8 0) 1 rfl Tryz.underlying22 info5 rfl (by decide) (by omega) u4 x4_2 ((wrap64 (48 + x5_1)) % 256) [.int .u8 ((wrap64 (48 + x5_1)) % 256)] (fun _ => True) (fun _ => False) rfl rfl ?aP (fun _ hk => hk.elim) ?aF ?aO ?aB ?aS ?aL ?_; (case aP => exact rfl); (case aB => exact z9_1_); (case aF => exact (fun _ _ => trivial)); (case aO => exact (by (with_reducible repeat (first | apply Kd.R_alloc | apply Kd.R_drewN | apply Kd.R_drew)); exact HO_4.out)); (case aS => exact (below_size z9_1_)); (case aL => have := LMc10.out; omega); intro v365 w11 ho hb hg hat; rw [← Ny364.out] at ho; have n0_ := Aside0.mk (hb); have n1_ := Aside0.mk (ho); clear HB; clear HO_4; have HB := n0_; have HO366 := n1_; clear n0_ n1_; clear ho hb hg hat))
           go_roundg k2
           case measure => have := HK1.out; have := HK2.out; omega
           case rel => exact ⟨(wrap64 (Int.tdiv x0_2 x5_1)), (y364), z9_2_, H', ⟨by have := HK1.out; have := HK2.out; omega⟩, ⟨by (with_reducible repeat (first | apply Kd.R_alloc | apply Kd.R_drewN | apply Kd.R_drew)); exact HO366.out⟩, ⟨by repeat (first | (with_reducible first | exact HB.out | apply below_alloc | apply pw_below_drewN | apply below_drew1) | exact HB.out)⟩⟩
         rw [if_neg c9] at H
         have c9b0 : ((Int.tmod x0_2 x5_1) == 0) = false := beq_eq_false_iff_ne.mpr c9
         have c9b1 : ((Int.tmod x0_2 x5_1) != 0) = true := bne_iff_ne.mpr c9
         have H' := Aside0.mk H
         clear H
         go_wp2
         go_roundg k2
         case measure => have := HK1.out; have := HK2.out; omega
         case rel => exact ⟨(x0_2), (x4_2), (wrap64 (x5_1 - 1)), z9_2_, z9_2_, H', ⟨by have := HK1.out; have := HK2.out; omega⟩, ⟨by (with_reducible repeat (first | apply Kd.R_alloc | apply Kd.R_drewN | apply Kd.R_drew)); exact HO_4.out⟩, ⟨by repeat (first | (with_reducible first | exact HB.out | apply below_alloc | apply pw_below_drewN | apply below_drew1) | exact HB.out)⟩⟩
     rw [if_neg c7] at H
     have c7b0 : decide (1 < x5_1) = false := decide_eq_false c7
     clear c7
     by_cases c12 : x0_1 > 1
     · rw [if_pos c12] at H
       have c12b0 : decide (1 < x0_1) = true := decide_eq_true c12
       clear c12
       simp only [Option.some.injEq, Prod.mk.injEq] at H
       obtain ⟨rfl, rfl⟩ := H
       go_wp2
       go_ret2
       exact ⟨by first | rfl | (simp [errW_none, errW_some] <;> rfl) | (simp [*, errW_none, errW_some] <;> rfl), by repeat (first | (with_reducible first | exact HB.out | apply below_alloc | apply pw_below_drewN | apply below_drew1) | exact HB.out)⟩
     rw [if_neg c12] at H
     have c12b0 : decide (1 < x0_1) = false := decide_eq_false c12
     clear c12
     by_cases cLM : x4_1.length < 4611686018427387904
     rotate_left
     · exact none_ (if_neg cLM) H
     rw [if_pos cLM] at H
     have LMC := Aside0.mk cLM
     clear cLM
     replace H := Option.bind_eq_some_iff.mp H
     obtain ⟨⟨t362, t363⟩, A130, H⟩ := H
     dsimp only at H
     have A13 := Aside0.mk A130
     clear A130
     simp only [Option.some.injEq, Prod.mk.injEq] at H
     obtain ⟨rfl, rfl⟩ := H
     obtain ⟨Ao14, co14, eo14⟩ := Kd.R_slice HO_4.out
     subst eo14
     go_wp2_with (first | ((with_reducible refine gate_callee (f := 81) rfl ?_); refine goesL_ (some 32) rfl rfl Tryz.func81 (by kernel_rfl) rfl #[.slice Ao14 x4_1.length co14] rfl z9_0_ ?_; (refine (impl_asLeast.own k1 _ x4_1 t362 t363 _ w z9_1_ (Kd.own_of_R (by (with_reducible repeat (first | apply Kd.R_alloc | apply Kd.R_drewN | apply Kd.R_drew)); exact HO_4.out)) LMC.out A13.out).mono ?_); rintro e w15 ⟨rfl, hb⟩; refine ⟨_, rfl, ?_⟩; clear HB HO_4; have HB := Aside0.mk hb; clear hb))
     go_ret2
     exact ⟨by first | rfl | (simp [errW_none, errW_some] <;> rfl) | (simp [*, errW_none, errW_some] <;> rfl), by repeat (first | (with_reducible first | exact HB.out | apply below_alloc | apply pw_below_drewN | apply below_drew1) | exact HB.out)⟩
 replace c3 := Bool.eq_false_iff.mpr c3
 subst c3
 have H1 : (some (0, false)) = some (r1, r2) := by rw [if_neg (show ¬ (false = true) by decide)] at H; exact H
 clear H
 have H := H1
 clear H1
 simp only [Option.some.injEq, Prod.mk.injEq] at H
 obtain ⟨rfl, rfl⟩ := H
 go_enter Tryz.func29, Tryz.ntmps29
 go_wp2_with (first | ((with_reducible refine gate_callee (f := 79) rfl ?_); refine goesL_ (some 7) rfl rfl Tryz.func79 (by kernel_rfl) rfl #[.int .i64 a0] rfl z9_0_ ?_; (with_reducible refine (impl_isProduct.calls a0 false _ A2.out).mono ?_); rintro e w' ⟨rfl, ⟨nd, rfl⟩⟩; refine ⟨_, rfl, ?_⟩))
 go_ret2
 exact ⟨by first | rfl | (simp [errW_none, errW_some] <;> rfl) | (simp [*, errW_none, errW_some] <;> rfl), by repeat (first | (with_reducible first | exact HB.out | apply below_alloc | apply pw_below_drewN | apply below_drew1) | exact HB.out)⟩

end Go.Proofs.YtogonichanoeaaaGreatDoor.PFnLeastOfSums

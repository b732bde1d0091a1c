-- Laid by this session's program gprint.py over the kit's print.
import Derived.Test.YtjpbadckmackbaaGreatDoorPFnDigitsSummedx0
import Derived.Test.YtjpbadckmackbaaGreatDoorPFnDigitsSummedx1
import Derived.Test.YtjpbadckmackbaaGreatDoorPFnDigitsSummedx2
import Derived.Test.YtjpbadckmackbaaGreatDoorPFnDigitsSummedx3
import Derived.Test.YtjpbadckmackbaaGreatDoorPFnDigitsSummedx4
namespace Go.Proofs.YtjpbadckmackbaaGreatDoor.PFnDigitsSummed
open Go.RowKit Go.Proofs.YtjpbadckmackbaaGreatDoorW.PrintWords Go.Proofs.YtjpbadckmackbaaGreatDoorW.PrintLast Go.Proofs.YtjpbadckmackbaaGreatDoorW.PrintMore
attribute [local go_sem] max2_int min2_int max_two min_two max_three min_three max_four min_four   -- for this text's walks alone
set_option linter.unusedVariables false
set_option linter.unusedSimpArgs false
theorem z5_0_ {p : Prop} (h : p := by (try simp only [List.map_toArray, List.map_cons, List.map_nil]); first | done | rfl | (simp only [List.length_drop, List.length_take]; rfl)) : p := h
theorem z5_1_ {p : Prop} (h : p := by repeat (first | (with_reducible first | exact HB.out | apply below_alloc | apply pw_below_drewN | apply below_drew1) | exact HB.out)) : p := h
theorem z5_2_ {p : Prop} (h : p := by repeat (first | (with_reducible first | exact HB.out | apply below_alloc | apply pw_below_drewN | apply below_drew1 | refine below_set ?_ (IsS40.ge HI246.out)) | exact HB.out)) : p := h
theorem z5_3_ {p : Prop} (h : p := by first | rfl | (simp; done) | (simp [*]; done)) : p := h
theorem z5_4_ {p : Prop} (h : p := by (with_reducible repeat (first | apply Kd.R_alloc | apply Kd.R_drewN | apply Kd.R_drew)); exact HO249.out) : p := h

/-! ### spec_DigitRoot: function 11 -/
def spec_DigitRoot.l0 : Nat → Int → Int → Option (Int × Int × Bool)
 | 0, _, _ => none
 | k + 1, x0, x5 => if x0 > 9 then ((spec_diSum.f k x0).bind fun t225 => (spec_DigitRoot.l0 k t225 (wrap64 (x5 + 1)))) else (some (x0, x5, true))
def spec_DigitRoot.f (k : Nat) (a0 : Int) : Option (Int × Int × Bool) := (spec_diGood.f a0).bind fun t224 => (if t224 = true then (spec_DigitRoot.l0 k a0 0) else (some (0, 0, false)))
theorem spec_DigitRoot.mono_l : ∀ k, (∀ y0 y1, LeO (spec_DigitRoot.l0 k y0 y1) (spec_DigitRoot.l0 (k + 1) y0 y1))
 | 0 => fun _ _ r h => by simp [spec_DigitRoot.l0] at h
 | k + 1 => by
  have ih0 := spec_DigitRoot.mono_l k
  intro y0 y1
  unfold spec_DigitRoot.l0
  repeat' first
  | (with_reducible exact ih0 _ _)
  | (with_reducible exact spec_diSum.mono _ _)
  | (with_reducible exact LeO.refl _)
  | (with_reducible exact LeO.none _)
  | (with_reducible refine LeO.ite ?_ ?_)
  | (with_reducible refine LeO.bind ?_ (fun _ => ?_))
  | exact ih0 _ _
  | exact spec_diSum.mono _ _
  | exact LeO.none _
  | refine LeO.ite ?_ ?_
  | refine LeO.bind ?_ (fun _ => ?_)
theorem spec_DigitRoot.mono : ∀ a0 k, LeO (spec_DigitRoot.f k a0) (spec_DigitRoot.f (k + 1) a0) := by
 intro a0 k
 have ih0 := spec_DigitRoot.mono_l k
 unfold spec_DigitRoot.f
 repeat' first
  | (with_reducible exact ih0 _ _)
  | (with_reducible exact spec_diSum.mono _ _)
  | (with_reducible exact LeO.refl _)
  | (with_reducible exact LeO.none _)
  | (with_reducible refine LeO.ite ?_ ?_)
  | (with_reducible refine LeO.bind ?_ (fun _ => ?_))
  | exact ih0 _ _
  | exact spec_diSum.mono _ _
  | exact LeO.none _
  | refine LeO.ite ?_ ?_
  | refine LeO.bind ?_ (fun _ => ?_)
set_option maxHeartbeats 8000000 in
set_option maxRecDepth 100000 in
theorem spec_DigitRoot.calls (k : Nat) (a0 : Int) (r1 : Int) (r2 : Int) (r3 : Bool) (w : World) (h : spec_DigitRoot.f k a0 = some (r1, r2, r3)) :
 Calls Tryz.prog 11 #[.int .i64 a0] w fun e w' => e = .returned (.tuple #[.int .i64 r1, .int .i64 r2, .bool r3]) ∧ Below w.heap.size w w' := by
 have HB := Aside0.mk (Below.refl w.heap.size w)
 have H : ((spec_diGood.f a0).bind fun t224 => (if t224 = true then (spec_DigitRoot.l0 k a0 0) else (some (0, 0, false)))) = some (r1, r2, r3) := h
 clear h
 replace H := Option.bind_eq_some_iff.mp H
 obtain ⟨t224, A20, H⟩ := H
 have A2 := Aside0.mk A20
 clear A20
 by_cases c3 : t224 = true
 · subst c3
   have H1 : (spec_DigitRoot.l0 k a0 0) = some (r1, r2, r3) := by rw [if_pos rfl] at H; exact H
   clear H
   have H := H1
   clear H1
   have H' := Aside0.mk H
   clear H
   go_enter Tryz.func11, Tryz.ntmps11
   go_wp2_with (first | ((with_reducible refine gate_callee (f := 39) rfl ?_); refine goesL_ (some 7) rfl rfl Tryz.func39 (by kernel_rfl) rfl #[.int .i64 a0] rfl z5_0_ ?_; (with_reducible refine (spec_diGood.calls a0 true _ A2.out).mono ?_); rintro e w' ⟨rfl, ⟨nd, rfl⟩⟩; refine ⟨_, rfl, ?_⟩))
   go_loopg [0, 5] k (fun kq v0 v5 w' => ∃ (x0_1 : Int) (x5_1 : Int), v0 = .int .i64 x0_1 ∧ v5 = .int .i64 x5_1 ∧ Aside0 (spec_DigitRoot.l0 kq x0_1 x5_1 = some (r1, r2, r3)) ∧ Aside0 (kq ≤ k) ∧ Aside0 (Below w.heap.size w w'))
   case atStart => exact ⟨(a0), (0), z5_3_, z5_3_, H', ⟨Nat.le_refl _⟩, ⟨by repeat (first | (with_reducible first | exact HB.out | apply below_alloc | apply pw_below_drewN | apply below_drew1) | exact HB.out)⟩⟩
   case round =>
    clear H'
    (try clear c1);(try clear p2);(try clear c3)
    obtain ⟨x0_1, x5_1, rfl, rfl, HA, HK1, HB⟩ := hrel
    cases gk with
    | zero => exact absurd HA.out (by simp [spec_DigitRoot.l0])
    | succ k1 =>
     have H := HA.out
     clear HA
     simp only [spec_DigitRoot.l0] at H
     by_cases c4 : x0_1 > 9
     · rw [if_pos c4] at H
       have c4b0 : decide (9 < x0_1) = true := decide_eq_true c4
       clear c4
       replace H := Option.bind_eq_some_iff.mp H
       obtain ⟨t225, A50, H⟩ := H
       have A5 := Aside0.mk A50
       clear A50
       have H' := Aside0.mk H
       clear H
       go_wp2_with (first | ((with_reducible refine gate_callee (f := 36) rfl ?_); refine goesL_ (some 12) rfl rfl Tryz.func36 (by kernel_rfl) rfl #[.int .i64 x0_1] rfl z5_0_ ?_; (with_reducible refine (spec_diSum.calls k1 x0_1 t225 _ A5.out).mono ?_); rintro e w6 ⟨rfl, hb⟩; refine ⟨_, rfl, ?_⟩; have n0_ := Aside0.mk (below_step z5_1_ hb); clear HB; have HB := n0_; clear n0_; (try clear hb); (try clear hb2); (try clear hk); (try clear hi)))
       go_roundg k1
       case measure => have := HK1.out; omega
       case rel => exact ⟨(t225), (wrap64 (x5_1 + 1)), z5_3_, z5_3_, H', ⟨by have := HK1.out; omega⟩, ⟨by repeat (first | (with_reducible first | exact HB.out | apply below_alloc | apply pw_below_drewN | apply below_drew1) | exact HB.out)⟩⟩
     rw [if_neg c4] at H
     have c4b0 : decide (9 < x0_1) = false := decide_eq_false c4
     clear c4
     simp only [Option.some.injEq, Prod.mk.injEq] at H
     obtain ⟨rfl, rfl, rfl⟩ := H
     go_wp2
     go_ret3
     exact ⟨by first | rfl | (simp [errW_none, errW_some] <;> rfl) | (simp [*, errW_none, errW_some] <;> rfl), by repeat (first | (with_reducible first | exact HB.out | apply below_alloc | apply pw_below_drewN | apply below_drew1) | exact HB.out)⟩
 replace c3 := Bool.eq_false_iff.mpr c3
 subst c3
 have H1 : (some (0, 0, false)) = some (r1, r2, r3) := by rw [if_neg (show ¬ (false = true) by decide)] at H; exact H
 clear H
 have H := H1
 clear H1
 simp only [Option.some.injEq, Prod.mk.injEq] at H
 obtain ⟨rfl, rfl, rfl⟩ := H
 go_enter Tryz.func11, Tryz.ntmps11
 go_wp2_with (first | ((with_reducible refine gate_callee (f := 39) rfl ?_); refine goesL_ (some 7) rfl rfl Tryz.func39 (by kernel_rfl) rfl #[.int .i64 a0] rfl z5_0_ ?_; (with_reducible refine (spec_diGood.calls a0 false _ A2.out).mono ?_); rintro e w' ⟨rfl, ⟨nd, rfl⟩⟩; refine ⟨_, rfl, ?_⟩))
 go_ret3
 exact ⟨by first | rfl | (simp [errW_none, errW_some] <;> rfl) | (simp [*, errW_none, errW_some] <;> rfl), by repeat (first | (with_reducible first | exact HB.out | apply below_alloc | apply pw_below_drewN | apply below_drew1) | exact HB.out)⟩

/-! ### impl_digitProduct: function 41 -/
-- behind 52
def impl_digitProduct.l0 : Nat → List Int → Int → Int → Option Int
 | 0, _, _, _ => none
 | k + 1, xs, out, i => if i < (xs.length : Int) then (if 0 ≤ i then impl_digitProduct.l0 k xs (wrap64 (out * (((rd xs i) - 48) % 256))) (wrap64 (i + 1)) else none) else some out
def impl_digitProduct.f (k : Nat) (a0 : Int) : Option Int := (strconv_Itoa.f a0).bind fun t => (if t.size ≤ 1048576 then impl_digitProduct.l0 k (bytesOf t) 1 0 else none)
theorem impl_digitProduct.mono_0 : ∀ k xs out i, LeO (impl_digitProduct.l0 k xs out i) (impl_digitProduct.l0 (k + 1) xs out i)
 | 0 => fun _ _ _ r h => by simp [impl_digitProduct.l0] at h
 | k + 1 => fun xs out i => by
  have ih := impl_digitProduct.mono_0 k
  unfold impl_digitProduct.l0
  exact LeO.ite (LeO.ite (ih _ _ _) (LeO.none _)) (LeO.refl _)
theorem impl_digitProduct.mono : ∀ a0 k, LeO (impl_digitProduct.f k a0) (impl_digitProduct.f (k + 1) a0) := by
 intro a0 k
 unfold impl_digitProduct.f
 exact LeO.bind (LeO.refl _) (fun _ => LeO.ite (impl_digitProduct.mono_0 _ _ _ _) (LeO.refl _))
set_option maxHeartbeats 8000000 in
set_option maxRecDepth 100000 in
open Bytes in
theorem impl_digitProduct.calls (k : Nat) (a0 : Int) (r : Int) (w : World) (hT : Shelf.TabOk w) (h : impl_digitProduct.f k a0 = some r) :
 Calls Tryz.prog 41 #[.int .i64 a0] w fun e w' => e = .returned (.int .i64 r) ∧ Below w.heap.size w w' := by
 have HT := Aside0.mk hT
 clear hT
 unfold impl_digitProduct.f at h
 obtain ⟨t, ht, h⟩ := Option.bind_eq_some_iff.mp h
 by_cases hz : t.size ≤ 1048576
 rotate_left
 · exact none_ (if_neg hz) h
 rw [if_pos hz] at h
 have A1 := Aside0.mk ht
 have hbl : (bytesOf t).length = t.size := (bytes_reads w 5 t (by omega)).1
 have H' := Aside0.mk h
 have HZ := Aside0.mk hz
 have HN : Aside0 ((bytesOf t).length = t.size) := ⟨hbl⟩
 have HB0 := Aside0.mk (Below.refl w.heap.size w)
 clear h hz hbl ht
 go_enter Tryz.func41, Tryz.ntmps41
 go_wp2_with (first | (go_at_call 52; (with_reducible refine (strconv_Itoa.calls a0 t _ HT.out A1.out).mono ?_); rintro e w6 ⟨rfl, hb⟩; have HB6 := Aside0.mk (below_step HB0.out hb); clear hb; have hcv := Lib.run_convert_string_bytes (P := Tryz.prog) w6 9 22 5 t (u := .string) Tryz.underlying9 Tryz.underlying22 Tryz.underlying5; have hgr := grown_le w6 t.size 5 (by have := HZ.out; omega); have hm := MR_conv w6 5 t (by have := HZ.out; omega) w6.heap.size (Nat.le_refl _) hgr.2 hgr.1; have HBV := Aside0.mk (bytes_below (Below.refl w6.heap.size w6) (Nat.le_refl _) 5 t); generalize Lib.bytesWorld w6 5 t = w7 at hm HBV hcv; generalize grownCap w6 t.size 0 5 = cap at hm hcv; have HM := Aside0.mk hm; clear hm hgr))
 go_loopg [3, 10] k (fun kq v3 v10 w' => ∃ (x i : Int), v3 = .int .i64 x ∧ v10 = .int .i64 i ∧ Aside0 (impl_digitProduct.l0 kq (bytesOf t) x i = some r) ∧ Aside0 (MR 5 w' w6.heap.size (fun _ => True) (.slice (some ⟨w6.heap.size, 0, none⟩) t.size cap) (bytesOf t)) ∧ Aside0 (Below w6.heap.size w6 w'))
 case atStart => exact ⟨1, 0, rfl, rfl, H', HM, HBV⟩
 case round =>
  clear H' HM HBV A1
  (try clear hcv)
  obtain ⟨x, i, rfl, rfl, HA, HO, HB⟩ := hrel
  cases gk with
  | zero => exact absurd HA.out (by simp [impl_digitProduct.l0])
  | succ k1 =>
   have H := HA.out
   clear HA
   simp only [impl_digitProduct.l0] at H
   by_cases c1 : i < ((bytesOf t).length : Int)
   · rw [if_pos c1] at H
     by_cases c2 : 0 ≤ i
     rotate_left
     · exact none_ (if_neg c2) H
     rw [if_pos c2] at H
     have q1 : i < (t.size : Int) := by rw [← HN.out]; exact c1
     have H' := Aside0.mk H
     clear H
     obtain ⟨hx18_0, hf18_0⟩ := MR_celln 0 HO.out i c2 q1
     have c1b0 : decide (i < (t.size : Int)) = true := decide_eq_true q1
     replace p18 := eq_true c2
     replace q18 := eq_true q1
     clear c1 c2 q1
     go_wp2
     go_roundg k1
     case measure => omega
     case rel => exact ⟨_, wrap64 (i + 1), rfl, rfl, H', HO, HB⟩
   rw [if_neg c1] at H
   have c1b0 : decide (i < (t.size : Int)) = false := decide_eq_false (by rw [← HN.out]; exact c1)
   obtain rfl := Option.some.inj H
   clear H c1
   go_wp2
   go_ret
   exact ⟨rfl, below_step HB6.out HB.out⟩

/-! ### impl_DigitProduct: function 12 -/
def impl_DigitProduct.f (k : Nat) (a0 : Int) : Option (Int × Bool) := (impl_isWritten.f a0).bind fun t226 => (if t226 = true then ((impl_digitProduct.f k a0).bind fun t227 => (some (t227, true))) else (some (0, false)))
theorem impl_DigitProduct.mono : ∀ a0 k, LeO (impl_DigitProduct.f k a0) (impl_DigitProduct.f (k + 1) a0) := by
 intro a0 k
 unfold impl_DigitProduct.f
 repeat' first
  | (with_reducible exact impl_digitProduct.mono _ _)
  | (with_reducible exact LeO.refl _)
  | (with_reducible exact LeO.none _)
  | (with_reducible refine LeO.ite ?_ ?_)
  | (with_reducible refine LeO.bind ?_ (fun _ => ?_))
  | exact impl_digitProduct.mono _ _
  | exact LeO.none _
  | refine LeO.ite ?_ ?_
  | refine LeO.bind ?_ (fun _ => ?_)
set_option maxHeartbeats 8000000 in
set_option maxRecDepth 100000 in
theorem impl_DigitProduct.calls (k : Nat) (a0 : Int) (r1 : Int) (r2 : Bool) (w : World) (hT : Shelf.TabOk w) (h : impl_DigitProduct.f k a0 = some (r1, r2)) :
 Calls Tryz.prog 12 #[.int .i64 a0] w fun e w' => e = .returned (.tuple #[.int .i64 r1, .bool r2]) ∧ Below w.heap.size w w' := by
 have HT := Aside0.mk hT
 clear hT
 have HB := Aside0.mk (Below.refl w.heap.size w)
 have H : ((impl_isWritten.f a0).bind fun t226 => (if t226 = true then ((impl_digitProduct.f k a0).bind fun t227 => (some (t227, true))) else (some (0, false)))) = some (r1, r2) := h
 clear h
 replace H := Option.bind_eq_some_iff.mp H
 obtain ⟨t226, A20, H⟩ := H
 have A2 := Aside0.mk A20
 clear A20
 by_cases c3 : t226 = true
 · subst c3
   have H1 : ((impl_digitProduct.f k a0).bind fun t227 => (some (t227, true))) = some (r1, r2) := by rw [if_pos rfl] at H; exact H
   clear H
   have H := H1
   clear H1
   replace H := Option.bind_eq_some_iff.mp H
   obtain ⟨t227, A40, H⟩ := H
   have A4 := Aside0.mk A40
   clear A40
   simp only [Option.some.injEq, Prod.mk.injEq] at H
   obtain ⟨rfl, rfl⟩ := H
   go_enter Tryz.func12, Tryz.ntmps12
   go_wp2_with (first | ((with_reducible refine gate_callee (f := 38) rfl ?_); refine goesL_ (some 5) rfl rfl Tryz.func38 (by kernel_rfl) rfl #[.int .i64 a0] rfl z5_0_ ?_; (with_reducible refine (impl_isWritten.calls a0 true _ A2.out).mono ?_); rintro e w' ⟨rfl, ⟨nd, rfl⟩⟩; refine ⟨_, rfl, ?_⟩) | ((with_reducible refine gate_callee (f := 41) rfl ?_); refine goesL_ (some 8) rfl rfl Tryz.func41 (by kernel_rfl) rfl #[.int .i64 a0] rfl z5_0_ ?_; (with_reducible refine (impl_digitProduct.calls k a0 t227 _ ?side1 A4.out).mono ?_); (case side1 => exact Shelf.TabOk.below HT.out z5_1_); rintro e w5 ⟨rfl, hb⟩; refine ⟨_, rfl, ?_⟩; have n0_ := Aside0.mk (below_step z5_1_ hb); clear HB; have HB := n0_; clear n0_; (try clear hb); (try clear hb2); (try clear hk); (try clear hi)))
   go_ret2
   exact ⟨by first | rfl | (simp [errW_none, errW_some] <;> rfl) | (simp [*, errW_none, errW_some] <;> rfl), by repeat (first | (with_reducible first | exact HB.out | apply below_alloc | apply pw_below_drewN | apply below_drew1) | exact HB.out)⟩
 replace c3 := Bool.eq_false_iff.mpr c3
 subst c3
 have H1 : (some (0, false)) = some (r1, r2) := by rw [if_neg (show ¬ (false = true) by decide)] at H; exact H
 clear H
 have H := H1
 clear H1
 simp only [Option.some.injEq, Prod.mk.injEq] at H
 obtain ⟨rfl, rfl⟩ := H
 go_enter Tryz.func12, Tryz.ntmps12
 go_wp2_with (first | ((with_reducible refine gate_callee (f := 38) rfl ?_); refine goesL_ (some 5) rfl rfl Tryz.func38 (by kernel_rfl) rfl #[.int .i64 a0] rfl z5_0_ ?_; (with_reducible refine (impl_isWritten.calls a0 false _ A2.out).mono ?_); rintro e w' ⟨rfl, ⟨nd, rfl⟩⟩; refine ⟨_, rfl, ?_⟩))
 go_ret2
 exact ⟨by first | rfl | (simp [errW_none, errW_some] <;> rfl) | (simp [*, errW_none, errW_some] <;> rfl), by repeat (first | (with_reducible first | exact HB.out | apply below_alloc | apply pw_below_drewN | apply below_drew1) | exact HB.out)⟩

/-! ### spec_diProduct: function 42 -/
-- behind 61
def spec_diProduct.l0 : Nat → List Int → Int → Int → Option Int
 | 0, _, _, _ => none
 | k + 1, xs, out, i => if i < (xs.length : Int) then (if 0 ≤ i then spec_diProduct.l0 k xs (wrap64 (out * (((rd xs i) - 48) % 256))) (wrap64 (i + 1)) else none) else some out
def spec_diProduct.f (k : Nat) (a0 : Int) : Option Int := (spec_l1Num.f k a0).bind fun t => (if t.size ≤ 1048576 then spec_diProduct.l0 k (bytesOf t) 1 0 else none)
theorem spec_diProduct.mono_0 : ∀ k xs out i, LeO (spec_diProduct.l0 k xs out i) (spec_diProduct.l0 (k + 1) xs out i)
 | 0 => fun _ _ _ r h => by simp [spec_diProduct.l0] at h
 | k + 1 => fun xs out i => by
  have ih := spec_diProduct.mono_0 k
  unfold spec_diProduct.l0
  exact LeO.ite (LeO.ite (ih _ _ _) (LeO.none _)) (LeO.refl _)
theorem spec_diProduct.mono : ∀ a0 k, LeO (spec_diProduct.f k a0) (spec_diProduct.f (k + 1) a0) := by
 intro a0 k
 unfold spec_diProduct.f
 exact LeO.bind (spec_l1Num.mono _ _) (fun _ => LeO.ite (spec_diProduct.mono_0 _ _ _ _) (LeO.refl _))
set_option maxHeartbeats 8000000 in
set_option maxRecDepth 100000 in
open Bytes in
theorem spec_diProduct.calls (k : Nat) (a0 : Int) (r : Int) (w : World) (h : spec_diProduct.f k a0 = some r) :
 Calls Tryz.prog 42 #[.int .i64 a0] w fun e w' => e = .returned (.int .i64 r) ∧ Below w.heap.size w w' := by
 unfold spec_diProduct.f at h
 obtain ⟨t, ht, h⟩ := Option.bind_eq_some_iff.mp h
 by_cases hz : t.size ≤ 1048576
 rotate_left
 · exact none_ (if_neg hz) h
 rw [if_pos hz] at h
 have A1 := Aside0.mk ht
 have hbl : (bytesOf t).length = t.size := (bytes_reads w 5 t (by omega)).1
 have H' := Aside0.mk h
 have HZ := Aside0.mk hz
 have HN : Aside0 ((bytesOf t).length = t.size) := ⟨hbl⟩
 have HB0 := Aside0.mk (Below.refl w.heap.size w)
 clear h hz hbl ht
 go_enter Tryz.func42, Tryz.ntmps42
 go_wp2_with (first | (go_at_call 61; (with_reducible refine (spec_l1Num.calls k a0 t _ A1.out).mono ?_); rintro e w6 ⟨rfl, hb⟩; have HB6 := Aside0.mk (below_step HB0.out hb); clear hb; have hcv := Lib.run_convert_string_bytes (P := Tryz.prog) w6 9 22 5 t (u := .string) Tryz.underlying9 Tryz.underlying22 Tryz.underlying5; have hgr := grown_le w6 t.size 5 (by have := HZ.out; omega); have hm := MR_conv w6 5 t (by have := HZ.out; omega) w6.heap.size (Nat.le_refl _) hgr.2 hgr.1; have HBV := Aside0.mk (bytes_below (Below.refl w6.heap.size w6) (Nat.le_refl _) 5 t); generalize Lib.bytesWorld w6 5 t = w7 at hm HBV hcv; generalize grownCap w6 t.size 0 5 = cap at hm hcv; have HM := Aside0.mk hm; clear hm hgr))
 go_loopg [3, 10] k (fun kq v3 v10 w' => ∃ (x i : Int), v3 = .int .i64 x ∧ v10 = .int .i64 i ∧ Aside0 (spec_diProduct.l0 kq (bytesOf t) x i = some r) ∧ Aside0 (MR 5 w' w6.heap.size (fun _ => True) (.slice (some ⟨w6.heap.size, 0, none⟩) t.size cap) (bytesOf t)) ∧ Aside0 (Below w6.heap.size w6 w'))
 case atStart => exact ⟨1, 0, rfl, rfl, H', HM, HBV⟩
 case round =>
  clear H' HM HBV A1
  (try clear hcv)
  obtain ⟨x, i, rfl, rfl, HA, HO, HB⟩ := hrel
  cases gk with
  | zero => exact absurd HA.out (by simp [spec_diProduct.l0])
  | succ k1 =>
   have H := HA.out
   clear HA
   simp only [spec_diProduct.l0] at H
   by_cases c1 : i < ((bytesOf t).length : Int)
   · rw [if_pos c1] at H
     by_cases c2 : 0 ≤ i
     rotate_left
     · exact none_ (if_neg c2) H
     rw [if_pos c2] at H
     have q1 : i < (t.size : Int) := by rw [← HN.out]; exact c1
     have H' := Aside0.mk H
     clear H
     obtain ⟨hx18_0, hf18_0⟩ := MR_celln 0 HO.out i c2 q1
     have c1b0 : decide (i < (t.size : Int)) = true := decide_eq_true q1
     replace p18 := eq_true c2
     replace q18 := eq_true q1
     clear c1 c2 q1
     go_wp2
     go_roundg k1
     case measure => omega
     case rel => exact ⟨_, wrap64 (i + 1), rfl, rfl, H', HO, HB⟩
   rw [if_neg c1] at H
   have c1b0 : decide (i < (t.size : Int)) = false := decide_eq_false (by rw [← HN.out]; exact c1)
   obtain rfl := Option.some.inj H
   clear H c1
   go_wp2
   go_ret
   exact ⟨rfl, below_step HB6.out HB.out⟩

/-! ### spec_DigitProduct: function 13 -/
def spec_DigitProduct.f (k : Nat) (a0 : Int) : Option (Int × Bool) := (spec_diGood.f a0).bind fun t228 => (if t228 = true then ((spec_diProduct.f k a0).bind fun t229 => (some (t229, true))) else (some (0, false)))
theorem spec_DigitProduct.mono : ∀ a0 k, LeO (spec_DigitProduct.f k a0) (spec_DigitProduct.f (k + 1) a0) := by
 intro a0 k
 unfold spec_DigitProduct.f
 repeat' first
  | (with_reducible exact spec_diProduct.mono _ _)
  | (with_reducible exact LeO.refl _)
  | (with_reducible exact LeO.none _)
  | (with_reducible refine LeO.ite ?_ ?_)
  | (with_reducible refine LeO.bind ?_ (fun _ => ?_))
  | exact spec_diProduct.mono _ _
  | exact LeO.none _
  | refine LeO.ite ?_ ?_
  | refine LeO.bind ?_ (fun _ => ?_)
set_option maxHeartbeats 8000000 in
set_option maxRecDepth 100000 in
theorem spec_DigitProduct.calls (k : Nat) (a0 : Int) (r1 : Int) (r2 : Bool) (w : World) (h : spec_DigitProduct.f k a0 = some (r1, r2)) :
 Calls Tryz.prog 13 #[.int .i64 a0] w fun e w' => e = .returned (.tuple #[.int .i64 r1, .bool r2]) ∧ Below w.heap.size w w' := by
 have HB := Aside0.mk (Below.refl w.heap.size w)
 have H : ((spec_diGood.f a0).bind fun t228 => (if t228 = true then ((spec_diProduct.f k a0).bind fun t229 => (some (t229, true))) else (some (0, false)))) = some (r1, r2) := h
 clear h
 replace H := Option.bind_eq_some_iff.mp H
 obtain ⟨t228, A20, H⟩ := H
 have A2 := Aside0.mk A20
 clear A20
 by_cases c3 : t228 = true
 · subst c3
   have H1 : ((spec_diProduct.f k a0).bind fun t229 => (some (t229, true))) = some (r1, r2) := by rw [if_pos rfl] at H; exact H
   clear H
   have H := H1
   clear H1
   replace H := Option.bind_eq_some_iff.mp H
   obtain ⟨t229, A40, H⟩ := H
   have A4 := Aside0.mk A40
   clear A40
   simp only [Option.some.injEq, Prod.mk.injEq] at H
   obtain ⟨rfl, rfl⟩ := H
   go_enter Tryz.func13, Tryz.ntmps13
   go_wp2_with (first | ((with_reducible refine gate_callee (f := 39) rfl ?_); refine goesL_ (some 5) rfl rfl Tryz.func39 (by kernel_rfl) rfl #[.int .i64 a0] rfl z5_0_ ?_; (with_reducible refine (spec_diGood.calls a0 true _ A2.out).mono ?_); rintro e w' ⟨rfl, ⟨nd, rfl⟩⟩; refine ⟨_, rfl, ?_⟩) | ((with_reducible refine gate_callee (f := 42) rfl ?_); refine goesL_ (some 8) rfl rfl Tryz.func42 (by kernel_rfl) rfl #[.int .i64 a0] rfl z5_0_ ?_; (with_reducible refine (spec_diProduct.calls k a0 t229 _ A4.out).mono ?_); rintro e w5 ⟨rfl, hb⟩; refine ⟨_, rfl, ?_⟩; have n0_ := Aside0.mk (below_step z5_1_ hb); clear HB; have HB := n0_; clear n0_; (try clear hb); (try clear hb2); (try clear hk); (try clear hi)))
   go_ret2
   exact ⟨by first | rfl | (simp [errW_none, errW_some] <;> rfl) | (simp [*, errW_none, errW_some] <;> rfl), by repeat (first | (with_reducible first | exact HB.out | apply below_alloc | apply pw_below_drewN | apply below_drew1) | exact HB.out)⟩
 replace c3 := Bool.eq_false_iff.mpr c3
 subst c3
 have H1 : (some (0, false)) = some (r1, r2) := by rw [if_neg (show ¬ (false = true) by decide)] at H; exact H
 clear H
 have H := H1
 clear H1
 simp only [Option.some.injEq, Prod.mk.injEq] at H
 obtain ⟨rfl, rfl⟩ := H
 go_enter Tryz.func13, Tryz.ntmps13
 go_wp2_with (first | ((with_reducible refine gate_callee (f := 39) rfl ?_); refine goesL_ (some 5) rfl rfl Tryz.func39 (by kernel_rfl) rfl #[.int .i64 a0] rfl z5_0_ ?_; (with_reducible refine (spec_diGood.calls a0 false _ A2.out).mono ?_); rintro e w' ⟨rfl, ⟨nd, rfl⟩⟩; refine ⟨_, rfl, ?_⟩))
 go_ret2
 exact ⟨by first | rfl | (simp [errW_none, errW_some] <;> rfl) | (simp [*, errW_none, errW_some] <;> rfl), by repeat (first | (with_reducible first | exact HB.out | apply below_alloc | apply pw_below_drewN | apply below_drew1) | exact HB.out)⟩

/-! ### impl_ProductEnd: function 14 -/
-- behind 40 41 38
def impl_ProductEnd.f (k : Nat) (a0 : Int) : Option (Int × Int × Bool) := (impl_isWritten.f a0).bind fun t => (if t = true then ((impl_untilOne.go (fun x => impl_digitProduct.f k x) k a0 0).bind fun r => some (r.1, r.2, true)) else some (0, 0, false))
theorem impl_ProductEnd.mono : ∀ a0 k, LeO (impl_ProductEnd.f k a0) (impl_ProductEnd.f (k + 1) a0) := by
 intro a0 k
 unfold impl_ProductEnd.f
 exact LeO.bind (LeO.refl _) (fun _ => LeO.ite (LeO.bind (impl_untilOne.go_mono (fun x => impl_digitProduct.mono _ _) _ _ _) (fun _ => LeO.refl _)) (LeO.refl _))
set_option maxHeartbeats 8000000 in
set_option maxRecDepth 100000 in
theorem impl_ProductEnd.calls (k : Nat) (a0 : Int) (r1 : Int) (r2 : Int) (r3 : Bool) (w : World) (hT : Shelf.TabOk w) (h : impl_ProductEnd.f k a0 = some (r1, r2, r3)) :
 Calls Tryz.prog 14 #[.int .i64 a0] w fun e w' => e = .returned (.tuple #[.int .i64 r1, .int .i64 r2, .bool r3]) ∧ Below w.heap.size w w' := by
 have HT := Aside0.mk hT
 clear hT
 have HB := Aside0.mk (Below.refl w.heap.size w)
 unfold impl_ProductEnd.f at h
 obtain ⟨t, ht, h⟩ := Option.bind_eq_some_iff.mp h
 have A1 := Aside0.mk ht
 clear ht
 cases t with
 | false =>
  rw [if_neg (by decide)] at h
  simp only [Option.some.injEq, Prod.mk.injEq] at h
  obtain ⟨rfl, rfl, rfl⟩ := h
  go_enter Tryz.func14, Tryz.ntmps14
  go_wp2_with (first | (go_at_call 38; (with_reducible refine (impl_isWritten.calls a0 false _ A1.out).mono ?_); rintro e w' ⟨rfl, ⟨nd, rfl⟩⟩))
  first | go_ret3 | go_ret2 | go_ret
  exact ⟨rfl, by repeat (first | exact Below.refl _ _ | apply pw_below_drewN | apply below_drew1)⟩
 | true =>
  rw [if_pos rfl] at h
  obtain ⟨z, hz, h⟩ := Option.bind_eq_some_iff.mp h
  simp only [Option.some.injEq, Prod.mk.injEq] at h
  obtain ⟨rfl, rfl, rfl⟩ := h
  have A2 := Aside0.mk hz
  clear hz
  go_enter Tryz.func14, Tryz.ntmps14
  go_wp2_with (first | (go_at_call 38; (with_reducible refine (impl_isWritten.calls a0 true _ A1.out).mono ?_); rintro e w' ⟨rfl, ⟨nd, rfl⟩⟩; have HB1 := Aside0.mk (pw_below_drewN (Below.refl w.heap.size w) nd : Below w.heap.size w (w.drewN nd)); generalize w.drewN nd = w1 at HB1 ⊢) | (go_at_call 40; (refine (impl_untilOne.calls (fun x => impl_digitProduct.f k x) k 41 _ #[] a0 z _ Tryz.func41 (by kernel_rfl) rfl (fun x t W hx hB => impl_digitProduct.calls k x t W (Shelf.TabOk.below (Shelf.TabOk.below HT.out HB1.out) (by first | exact hB | exact (Below.trans (by repeat (first | exact Below.refl _ _ | apply pw_below_drewN | apply below_drew1)) hB))) hx) A2.out).mono ?_); rintro e w2 ⟨rfl, hb⟩; have HB2 := Aside0.mk (below_step HB1.out (by first | exact hb | exact below_step (by repeat (first | exact Below.refl _ _ | apply pw_below_drewN | apply below_drew1)) hb)); clear hb))
  first | go_ret3 | go_ret2 | go_ret
  exact ⟨rfl, HB2.out⟩

/-! ### spec_ProductEnd: function 15 -/
def spec_ProductEnd.l0 : Nat → Int → Int → Option (Int × Int × Bool)
 | 0, _, _ => none
 | k + 1, x0, x5 => if x0 > 9 then ((spec_diProduct.f k x0).bind fun t231 => (spec_ProductEnd.l0 k t231 (wrap64 (x5 + 1)))) else (some (x0, x5, true))
def spec_ProductEnd.f (k : Nat) (a0 : Int) : Option (Int × Int × Bool) := (spec_diGood.f a0).bind fun t230 => (if t230 = true then (spec_ProductEnd.l0 k a0 0) else (some (0, 0, false)))
theorem spec_ProductEnd.mono_l : ∀ k, (∀ y0 y1, LeO (spec_ProductEnd.l0 k y0 y1) (spec_ProductEnd.l0 (k + 1) y0 y1))
 | 0 => fun _ _ r h => by simp [spec_ProductEnd.l0] at h
 | k + 1 => by
  have ih0 := spec_ProductEnd.mono_l k
  intro y0 y1
  unfold spec_ProductEnd.l0
  repeat' first
  | (with_reducible exact ih0 _ _)
  | (with_reducible exact spec_diProduct.mono _ _)
  | (with_reducible exact LeO.refl _)
  | (with_reducible exact LeO.none _)
  | (with_reducible refine LeO.ite ?_ ?_)
  | (with_reducible refine LeO.bind ?_ (fun _ => ?_))
  | exact ih0 _ _
  | exact spec_diProduct.mono _ _
  | exact LeO.none _
  | refine LeO.ite ?_ ?_
  | refine LeO.bind ?_ (fun _ => ?_)
theorem spec_ProductEnd.mono : ∀ a0 k, LeO (spec_ProductEnd.f k a0) (spec_ProductEnd.f (k + 1) a0) := by
 intro a0 k
 have ih0 := spec_ProductEnd.mono_l k
 unfold spec_ProductEnd.f
 repeat' first
  | (with_reducible exact ih0 _ _)
  | (with_reducible exact spec_diProduct.mono _ _)
  | (with_reducible exact LeO.refl _)
  | (with_reducible exact LeO.none _)
  | (with_reducible refine LeO.ite ?_ ?_)
  | (with_reducible refine LeO.bind ?_ (fun _ => ?_))
  | exact ih0 _ _
  | exact spec_diProduct.mono _ _
  | exact LeO.none _
  | refine LeO.ite ?_ ?_
  | refine LeO.bind ?_ (fun _ => ?_)
set_option maxHeartbeats 8000000 in
set_option maxRecDepth 100000 in
theorem spec_ProductEnd.calls (k : Nat) (a0 : Int) (r1 : Int) (r2 : Int) (r3 : Bool) (w : World) (h : spec_ProductEnd.f k a0 = some (r1, r2, r3)) :
 Calls Tryz.prog 15 #[.int .i64 a0] w fun e w' => e = .returned (.tuple #[.int .i64 r1, .int .i64 r2, .bool r3]) ∧ Below w.heap.size w w' := by
 have HB := Aside0.mk (Below.refl w.heap.size w)
 have H : ((spec_diGood.f a0).bind fun t230 => (if t230 = true then (spec_ProductEnd.l0 k a0 0) else (some (0, 0, false)))) = some (r1, r2, r3) := h
 clear h
 replace H := Option.bind_eq_some_iff.mp H
 obtain ⟨t230, A20, H⟩ := H
 have A2 := Aside0.mk A20
 clear A20
 by_cases c3 : t230 = true
 · subst c3
   have H1 : (spec_ProductEnd.l0 k a0 0) = some (r1, r2, r3) := by rw [if_pos rfl] at H; exact H
   clear H
   have H := H1
   clear H1
   have H' := Aside0.mk H
   clear H
   go_enter Tryz.func15, Tryz.ntmps15
   go_wp2_with (first | ((with_reducible refine gate_callee (f := 39) rfl ?_); refine goesL_ (some 7) rfl rfl Tryz.func39 (by kernel_rfl) rfl #[.int .i64 a0] rfl z5_0_ ?_; (with_reducible refine (spec_diGood.calls a0 true _ A2.out).mono ?_); rintro e w' ⟨rfl, ⟨nd, rfl⟩⟩; refine ⟨_, rfl, ?_⟩))
   go_loopg [0, 5] k (fun kq v0 v5 w' => ∃ (x0_1 : Int) (x5_1 : Int), v0 = .int .i64 x0_1 ∧ v5 = .int .i64 x5_1 ∧ Aside0 (spec_ProductEnd.l0 kq x0_1 x5_1 = some (r1, r2, r3)) ∧ Aside0 (kq ≤ k) ∧ Aside0 (Below w.heap.size w w'))
   case atStart => exact ⟨(a0), (0), z5_3_, z5_3_, H', ⟨Nat.le_refl _⟩, ⟨by repeat (first | (with_reducible first | exact HB.out | apply below_alloc | apply pw_below_drewN | apply below_drew1) | exact HB.out)⟩⟩
   case round =>
    clear H'
    (try clear c1);(try clear p2);(try clear c3)
    obtain ⟨x0_1, x5_1, rfl, rfl, HA, HK1, HB⟩ := hrel
    cases gk with
    | zero => exact absurd HA.out (by simp [spec_ProductEnd.l0])
    | succ k1 =>
     have H := HA.out
     clear HA
     simp only [spec_ProductEnd.l0] at H
     by_cases c4 : x0_1 > 9
     · rw [if_pos c4] at H
       have c4b0 : decide (9 < x0_1) = true := decide_eq_true c4
       clear c4
       replace H := Option.bind_eq_some_iff.mp H
       obtain ⟨t231, A50, H⟩ := H
       have A5 := Aside0.mk A50
       clear A50
       have H' := Aside0.mk H
       clear H
       go_wp2_with (first | ((with_reducible refine gate_callee (f := 42) rfl ?_); refine goesL_ (some 12) rfl rfl Tryz.func42 (by kernel_rfl) rfl #[.int .i64 x0_1] rfl z5_0_ ?_; (with_reducible refine (spec_diProduct.calls k1 x0_1 t231 _ A5.out).mono ?_); rintro e w6 ⟨rfl, hb⟩; refine ⟨_, rfl, ?_⟩; have n0_ := Aside0.mk (below_step z5_1_ hb); clear HB; have HB := n0_; clear n0_; (try clear hb); (try clear hb2); (try clear hk); (try clear hi)))
       go_roundg k1
       case measure => have := HK1.out; omega
       case rel => exact ⟨(t231), (wrap64 (x5_1 + 1)), z5_3_, z5_3_, H', ⟨by have := HK1.out; omega⟩, ⟨by repeat (first | (with_reducible first | exact HB.out | apply below_alloc | apply pw_below_drewN | apply below_drew1) | exact HB.out)⟩⟩
     rw [if_neg c4] at H
     have c4b0 : decide (9 < x0_1) = false := decide_eq_false c4
     clear c4
     simp only [Option.some.injEq, Prod.mk.injEq] at H
     obtain ⟨rfl, rfl, rfl⟩ := H
     go_wp2
     go_ret3
     exact ⟨by first | rfl | (simp [errW_none, errW_some] <;> rfl) | (simp [*, errW_none, errW_some] <;> rfl), by repeat (first | (with_reducible first | exact HB.out | apply below_alloc | apply pw_below_drewN | apply below_drew1) | exact HB.out)⟩
 replace c3 := Bool.eq_false_iff.mpr c3
 subst c3
 have H1 : (some (0, 0, false)) = some (r1, r2, r3) := by rw [if_neg (show ¬ (false = true) by decide)] at H; exact H
 clear H
 have H := H1
 clear H1
 simp only [Option.some.injEq, Prod.mk.injEq] at H
 obtain ⟨rfl, rfl, rfl⟩ := H
 go_enter Tryz.func15, Tryz.ntmps15
 go_wp2_with (first | ((with_reducible refine gate_callee (f := 39) rfl ?_); refine goesL_ (some 7) rfl rfl Tryz.func39 (by kernel_rfl) rfl #[.int .i64 a0] rfl z5_0_ ?_; (with_reducible refine (spec_diGood.calls a0 false _ A2.out).mono ?_); rintro e w' ⟨rfl, ⟨nd, rfl⟩⟩; refine ⟨_, rfl, ?_⟩))
 go_ret3
 exact ⟨by first | rfl | (simp [errW_none, errW_some] <;> rfl) | (simp [*, errW_none, errW_some] <;> rfl), by repeat (first | (with_reducible first | exact HB.out | apply below_alloc | apply pw_below_drewN | apply below_drew1) | exact HB.out)⟩

/-! ### impl_CountOfSum: function 16 -/
def impl_CountOfSum.j0 : Nat → Int → Int → Bool → Option (Int × Bool)
 | 0, _, _, _ => none
 | k + 1, x0, x1, x12 => if x12 = true then (some (0, false)) else (if x1 = 0 then (some (0, true)) else ((impl_below.f k (wrap64 (x0 + 1)) x1).bind fun t233 => (some (t233, true))))
def impl_CountOfSum.f (k : Nat) (a0 : Int) (a1 : Int) : Option (Int × Bool) := (impl_isWritten.f a0).bind fun t232 => (if t232 = true then (impl_CountOfSum.j0 k a0 a1 (decide (a1 < 0))) else (impl_CountOfSum.j0 k a0 a1 true))
theorem impl_CountOfSum.mono_l : ∀ k, (∀ y0 y1 y2, LeO (impl_CountOfSum.j0 k y0 y1 y2) (impl_CountOfSum.j0 (k + 1) y0 y1 y2))
 | 0 => fun _ _ _ r h => by simp [impl_CountOfSum.j0] at h
 | k + 1 => by
  have ih0 := impl_CountOfSum.mono_l k
  intro y0 y1 y2
  unfold impl_CountOfSum.j0
  repeat' first
  | (with_reducible exact ih0 _ _ _)
  | (with_reducible exact impl_below.mono _ _ _)
  | (with_reducible exact LeO.refl _)
  | (with_reducible exact LeO.none _)
  | (with_reducible refine LeO.ite ?_ ?_)
  | (with_reducible refine LeO.bind ?_ (fun _ => ?_))
  | exact ih0 _ _ _
  | exact impl_below.mono _ _ _
  | exact LeO.none _
  | refine LeO.ite ?_ ?_
  | refine LeO.bind ?_ (fun _ => ?_)
theorem impl_CountOfSum.mono : ∀ a0 a1 k, LeO (impl_CountOfSum.f k a0 a1) (impl_CountOfSum.f (k + 1) a0 a1) := by
 intro a0 a1 k
 have ih0 := impl_CountOfSum.mono_l k
 unfold impl_CountOfSum.f
 repeat' first
  | (with_reducible exact ih0 _ _ _)
  | (with_reducible exact impl_below.mono _ _ _)
  | (with_reducible exact LeO.refl _)
  | (with_reducible exact LeO.none _)
  | (with_reducible refine LeO.ite ?_ ?_)
  | (with_reducible refine LeO.bind ?_ (fun _ => ?_))
  | exact ih0 _ _ _
  | exact impl_below.mono _ _ _
  | exact LeO.none _
  | refine LeO.ite ?_ ?_
  | refine LeO.bind ?_ (fun _ => ?_)
set_option maxHeartbeats 8000000 in
set_option maxRecDepth 100000 in
theorem impl_CountOfSum.calls (k : Nat) (a0 : Int) (a1 : Int) (r1 : Int) (r2 : Bool) (w : World) (hT : Shelf.TabOk w) (h : impl_CountOfSum.f k a0 a1 = some (r1, r2)) :
 Calls Tryz.prog 16 #[.int .i64 a0, .int .i64 a1] w fun e w' => e = .returned (.tuple #[.int .i64 r1, .bool r2]) ∧ Below w.heap.size w w' := by
 have HT := Aside0.mk hT
 clear hT
 have HB := Aside0.mk (Below.refl w.heap.size w)
 have H : ((impl_isWritten.f a0).bind fun t232 => (if t232 = true then (impl_CountOfSum.j0 k a0 a1 (decide (a1 < 0))) else (impl_CountOfSum.j0 k a0 a1 true))) = some (r1, r2) := h
 clear h
 have HC3 := Aside0.mk H
 clear H
 go_enter Tryz.func16, Tryz.ntmps16
 go_upto_region 1 with (fail)
 go_cut [12] (fun v12 wc => ∃ (kq : Nat) (x12_2 : Bool), v12 = .bool x12_2 ∧ Aside0 (impl_CountOfSum.j0 kq a0 a1 x12_2 = some (r1, r2)) ∧ Aside0 (kq ≤ k) ∧ Aside0 (Below w.heap.size w wc))
 case first =>
  have H := HC3.out
  clear HC3
  replace H := Option.bind_eq_some_iff.mp H
  obtain ⟨t232, A40, H⟩ := H
  have A4 := Aside0.mk A40
  clear A40
  by_cases c5 : t232 = true
  · subst c5
    have H1 : (impl_CountOfSum.j0 k a0 a1 (decide (a1 < 0))) = some (r1, r2) := by rw [if_pos rfl] at H; exact H
    clear H
    have H := H1
    clear H1
    have H' := Aside0.mk H
    clear H
    go_wp2_with (first | ((with_reducible refine gate_callee (f := 38) rfl ?_); refine goesL_ (some 7) rfl rfl Tryz.func38 (by kernel_rfl) rfl #[.int .i64 a0] rfl z5_0_ ?_; (with_reducible refine (impl_isWritten.calls a0 true _ A4.out).mono ?_); rintro e w' ⟨rfl, ⟨nd, rfl⟩⟩; refine ⟨_, rfl, ?_⟩))
    go_meet
    case rel => exact ⟨_, (decide (a1 < 0)), z5_3_, H', ⟨by first | omega | exact Nat.le_refl _⟩, ⟨by repeat (first | (with_reducible first | exact HB.out | apply below_alloc | apply pw_below_drewN | apply below_drew1) | exact HB.out)⟩⟩
  replace c5 := Bool.eq_false_iff.mpr c5
  subst c5
  have H1 : (impl_CountOfSum.j0 k a0 a1 true) = some (r1, r2) := by rw [if_neg (show ¬ (false = true) by decide)] at H; exact H
  clear H
  have H := H1
  clear H1
  have H' := Aside0.mk H
  clear H
  go_wp2_with (first | ((with_reducible refine gate_callee (f := 38) rfl ?_); refine goesL_ (some 7) rfl rfl Tryz.func38 (by kernel_rfl) rfl #[.int .i64 a0] rfl z5_0_ ?_; (with_reducible refine (impl_isWritten.calls a0 false _ A4.out).mono ?_); rintro e w' ⟨rfl, ⟨nd, rfl⟩⟩; refine ⟨_, rfl, ?_⟩))
  go_meet
  case rel => exact ⟨_, (true), z5_3_, H', ⟨by first | omega | exact Nat.le_refl _⟩, ⟨by repeat (first | (with_reducible first | exact HB.out | apply below_alloc | apply pw_below_drewN | apply below_drew1) | exact HB.out)⟩⟩
 case rest =>
  clear HC3
  (try clear c1);(try clear p2);(try clear c3);(try clear c5)
  obtain ⟨kq, x12_2, rfl, HA, HJ2, HB⟩ := hcut
  cases kq with
  | zero => exact absurd HA.out (by simp [impl_CountOfSum.j0])
  | succ kj2 =>
   have H := HA.out
   clear HA
   simp only [impl_CountOfSum.j0] at H
   by_cases c6 : x12_2 = true
   · subst c6
     have H1 : (some (0, false)) = some (r1, r2) := by rw [if_pos rfl] at H; exact H
     clear H
     have H := H1
     clear H1
     simp only [Option.some.injEq, Prod.mk.injEq] at H
     obtain ⟨rfl, rfl⟩ := H
     go_wp2
     go_ret2
     exact ⟨by first | rfl | (simp [errW_none, errW_some] <;> rfl) | (simp [*, errW_none, errW_some] <;> rfl), by repeat (first | (with_reducible first | exact HB.out | apply below_alloc | apply pw_below_drewN | apply below_drew1) | exact HB.out)⟩
   replace c6 := Bool.eq_false_iff.mpr c6
   subst c6
   have H1 : (if a1 = 0 then (some (0, true)) else ((impl_below.f kj2 (wrap64 (a0 + 1)) a1).bind fun t233 => (some (t233, true)))) = some (r1, r2) := by rw [if_neg (show ¬ (false = true) by decide)] at H; exact H
   clear H
   have H := H1
   clear H1
   by_cases c7 : a1 = 0
   · rw [if_pos c7] at H
     have c7b0 : (a1 == 0) = true := beq_iff_eq.mpr c7
     have c7b1 : (a1 != 0) = false := bne_eq_false_iff_eq.mpr c7
     clear c7
     simp only [Option.some.injEq, Prod.mk.injEq] at H
     obtain ⟨rfl, rfl⟩ := H
     go_wp2
     go_ret2
     exact ⟨by first | rfl | (simp [errW_none, errW_some] <;> rfl) | (simp [*, errW_none, errW_some] <;> rfl), by repeat (first | (with_reducible first | exact HB.out | apply below_alloc | apply pw_below_drewN | apply below_drew1) | exact HB.out)⟩
   rw [if_neg c7] at H
   have c7b0 : (a1 == 0) = false := beq_eq_false_iff_ne.mpr c7
   have c7b1 : (a1 != 0) = true := bne_iff_ne.mpr c7
   replace H := Option.bind_eq_some_iff.mp H
   obtain ⟨t233, A80, H⟩ := H
   have A8 := Aside0.mk A80
   clear A80
   simp only [Option.some.injEq, Prod.mk.injEq] at H
   obtain ⟨rfl, rfl⟩ := H
   go_wp2_with (first | ((with_reducible refine gate_callee (f := 33) rfl ?_); refine goesL_ (some 18) rfl rfl Tryz.func33 (by kernel_rfl) rfl #[.int .i64 (wrap64 (a0 + 1)), .int .i64 a1] rfl z5_0_ ?_; (with_reducible refine (impl_below.calls kj2 (wrap64 (a0 + 1)) a1 t233 _ ?side1 A8.out).mono ?_); (case side1 => exact Shelf.TabOk.below HT.out z5_1_); rintro e w9 ⟨rfl, hb⟩; refine ⟨_, rfl, ?_⟩; have n0_ := Aside0.mk (below_step z5_1_ hb); clear HB; have HB := n0_; clear n0_; (try clear hb); (try clear hb2); (try clear hk); (try clear hi)))
   go_ret2
   exact ⟨by first | rfl | (simp [errW_none, errW_some] <;> rfl) | (simp [*, errW_none, errW_some] <;> rfl), by repeat (first | (with_reducible first | exact HB.out | apply below_alloc | apply pw_below_drewN | apply below_drew1) | exact HB.out)⟩

/-! ### spec_DrawCountOfSum: function 18 -/
def spec_DrawCountOfSum.f (l0 : List Int) : Option (Int × Int) := (spec_l1Cur_written.f l0 0 0).bind fun bt235 => ((spec_l1Cur_among.f l0 bt235.2.1 bt235.2.2 (([0, 1, 2, 5, 9, 10, 18, 27, 108, 109, (-1), 4611686018427387904] : List Int))).bind fun bt241 => (some (bt235.1, bt241.1)))
set_option maxHeartbeats 8000000 in
set_option maxRecDepth 100000 in
theorem spec_DrawCountOfSum.calls (A0 : Option Addr) (c0 : Nat) (l0 : List Int) (r1 : Int) (r2 : Int) (w : World) (hr0 : Kd.C (Kd.int .u8) w A0 l0.length l0) (hc0 : l0.length ≤ c0) (h : spec_DrawCountOfSum.f l0 = some (r1, r2)) :
 Calls Tryz.prog 18 #[.slice A0 l0.length c0] w fun e w' => e = .returned (.tuple #[.int .i64 r1, .int .i64 r2]) ∧ Below w.heap.size w w' := by
 have hu40 := Tryz.underlying40
 have HR0 := Aside0.mk hr0
 have HC0 := Aside0.mk hc0
 clear hr0 hc0
 have HB := Aside0.mk (Below.refl w.heap.size w)
 have H : ((spec_l1Cur_written.f l0 0 0).bind fun bt235 => ((spec_l1Cur_among.f l0 bt235.2.1 bt235.2.2 (([0, 1, 2, 5, 9, 10, 18, 27, 108, 109, (-1), 4611686018427387904] : List Int))).bind fun bt241 => (some (bt235.1, bt241.1)))) = some (r1, r2) := h
 clear h
 replace H := Option.bind_eq_some_iff.mp H
 obtain ⟨⟨t235, t236, t237⟩, A20, H⟩ := H
 dsimp only at H
 have A2 := Aside0.mk A20
 clear A20
 obtain ⟨y238, hy238⟩ : ∃ y_ : List Int, y_ = (([0, 1, 2, 5, 9, 10, 18, 27, 108, 109, (-1), 4611686018427387904] : List Int)) := ⟨_, rfl⟩
 replace H : ((spec_l1Cur_among.f l0 t236 t237 y238).bind fun bt241 => (some (t235, bt241.1))) = some (r1, r2) := by first | (rw [hy238]; with_reducible exact H) | (have H2_ := (Option.bind_some _ _).symm.trans H; rw [hy238]; with_reducible exact H2_) | (have H2_ := (Option.bind_some _ _).symm.trans H; with_reducible exact H2_) | with_reducible exact H | (rw [hy238]; exact H) | exact H
 have Ny238 := Aside0.mk hy238
 clear hy238
 replace H := Option.bind_eq_some_iff.mp H
 obtain ⟨⟨t241, t242, t243⟩, A30, H⟩ := H
 dsimp only at H
 have A3 := Aside0.mk A30
 clear A30
 simp only [Option.some.injEq, Prod.mk.injEq] at H
 obtain ⟨rfl, rfl⟩ := H
 go_enter Tryz.func18, Tryz.ntmps18
 go_wp2_with (first | ((with_reducible refine gate_dst (N := 8) rfl ?_); refine box_event ?hg (N := 8) ?hd (cs := #[.slice A0 l0.length c0, .int .i64 0, .int .u64 0]) (t := 40) ?hr ?_; (case hd => rfl); (case hg => rfl); (case hr => first | (go_simp; done) | (go_simp; rfl)); intro gb234 hg w4 hbox hb; have n0_ := Aside0.mk (below_step z5_1_ hb); have n1_ := Aside0.mk ((⟨_, _, hbox, (by rw [hg]; exact (below_size z5_1_) : w.heap.size ≤ gb234), HR0.out⟩ : IsS40 w w4 gb234 l0 0 0)); clear HB; have HB := n0_; have HI234 := n1_; clear n0_ n1_; clear hb hbox hg) | ((with_reducible refine gate_callee (f := 44) rfl ?_); refine goesL_ (some 10) rfl rfl Tryz.func44 (by kernel_rfl) rfl #[.pointer (some ⟨gb234, 0, none⟩)] rfl z5_0_ ?_; (with_reducible refine (spec_l1Cur_written.calls gb234 l0 0 0 t235 t236 t237 w _ ?side1 ?side2 A2.out).mono ?_); (case side1 => repeat (first | (with_reducible first | exact HI234.out | apply IsS40.alloc | apply IsS40.drewN | apply IsS40.drew | apply IsS40.set_1 | apply IsS40.set_2) | exact HI234.out)); (case side2 => repeat (first | (with_reducible first | exact HB.out | apply below_alloc | apply pw_below_drewN | apply below_drew1 | refine below_set ?_ (IsS40.ge HI234.out)) | exact HB.out)); rintro e w5 ⟨rfl, hi, hb, hk⟩; refine ⟨_, rfl, ?_⟩; have n0_ := Aside0.mk (hb); have n1_ := Aside0.mk (hi); clear HB; clear HI234; have HB := n0_; have HI234 := n1_; clear n0_ n1_; (try clear hb); (try clear hb2); (try clear hk); (try clear hi)) | ((with_reducible refine gate_dst (N := 13) rfl ?_); refine Kd.R_lit (Kd.int .i64) _ 3 ?hg (N := 13) ?hd (xs := ([0, 1, 2, 5, 9, 10, 18, 27, 108, 109, (-1), 4611686018427387904] : List Int)) (inner := [.int .i64 0, .int .i64 1, .int .i64 2, .int .i64 5, .int .i64 9, .int .i64 10, .int .i64 18, .int .i64 27, .int .i64 108, .int .i64 109, .int .i64 (-1), .int .i64 4611686018427387904]) (ok := fun _ => True) (okp := fun _ => True) ?hr ?hp (fun _ hk => hk) trivial (Below.refl _ _) (Nat.le_refl _) (by simp) ?_; (case hd => rfl); (case hg => rfl); (case hr => first | (go_simp; done) | (go_simp; rfl)); (case hp => exact (Reps.one (show Kd.M (Kd.int .i64) _ _ _ 0 [.int .i64 0] from rfl) (Reps.one (show Kd.M (Kd.int .i64) _ _ _ 1 [.int .i64 1] from rfl) (Reps.one (show Kd.M (Kd.int .i64) _ _ _ 2 [.int .i64 2] from rfl) (Reps.one (show Kd.M (Kd.int .i64) _ _ _ 5 [.int .i64 5] from rfl) (Reps.one (show Kd.M (Kd.int .i64) _ _ _ 9 [.int .i64 9] from rfl) (Reps.one (show Kd.M (Kd.int .i64) _ _ _ 10 [.int .i64 10] from rfl) (Reps.one (show Kd.M (Kd.int .i64) _ _ _ 18 [.int .i64 18] from rfl) (Reps.one (show Kd.M (Kd.int .i64) _ _ _ 27 [.int .i64 27] from rfl) (Reps.one (show Kd.M (Kd.int .i64) _ _ _ 108 [.int .i64 108] from rfl) (Reps.one (show Kd.M (Kd.int .i64) _ _ _ 109 [.int .i64 109] from rfl) (Reps.one (show Kd.M (Kd.int .i64) _ _ _ (-1) [.int .i64 (-1)] from rfl) (Reps.one (show Kd.M (Kd.int .i64) _ _ _ 4611686018427387904 [.int .i64 4611686018427387904] from rfl) (Reps.none _ _)))))))))))))); intro v239 w6 ho7 hb hg_ hnew_; clear hg_ hnew_; (first | rw [← Ny238.out] at ho7 | (simp only [Int.reduceToNat] at ho7; rw [← Ny238.out] at ho7)); have n0_ := Aside0.mk (Kd.R_lower ho7 (below_size (by repeat (first | (with_reducible first | exact HB.out | apply below_alloc | apply pw_below_drewN | apply below_drew1 | refine below_set ?_ (IsS40.ge HI234.out)) | exact HB.out)))); have n1_ := Aside0.mk (IsS40.below (by repeat (first | (with_reducible first | exact HI234.out | apply IsS40.alloc | apply IsS40.drewN | apply IsS40.drew | apply IsS40.set_1 | apply IsS40.set_2) | exact HI234.out)) hb); have n2_ := Aside0.mk (below_step (by repeat (first | (with_reducible first | exact HB.out | apply below_alloc | apply pw_below_drewN | apply below_drew1 | refine below_set ?_ (IsS40.ge HI234.out)) | exact HB.out)) hb); clear HI234; clear HB; have HO240 := n0_; have HI234 := n1_; have HB := n2_; clear n0_ n1_ n2_; clear hb ho7; obtain ⟨Ao8, co8, eo8⟩ := Kd.R_slice HO240.out; subst eo8) | ((with_reducible refine gate_callee (f := 45) rfl ?_); refine goesL_ (some 14) rfl rfl Tryz.func45 (by kernel_rfl) rfl #[.pointer (some ⟨gb234, 0, none⟩), .slice Ao8 y238.length co8] rfl z5_0_ ?_; (with_reducible refine (spec_l1Cur_among.calls gb234 l0 t236 t237 _ _ y238 t241 t242 t243 w _ ?side1 ?side2 ?side3 ?side4 ?side5 A3.out).mono ?_); (case side1 => repeat (first | (with_reducible first | exact HI234.out | apply IsS40.alloc | apply IsS40.drewN | apply IsS40.drew | apply IsS40.set_1 | apply IsS40.set_2) | exact HI234.out)); (case side2 => repeat (first | (with_reducible first | exact HB.out | apply below_alloc | apply pw_below_drewN | apply below_drew1 | refine below_set ?_ (IsS40.ge HI234.out)) | exact HB.out)); (case side3 => repeat (first | exact (Kd.R_reads' HO240.out).2.2 | (with_reducible refine Kd.C_alloc ?_ _) | (with_reducible refine Kd.C_drewN ?_ _) | (with_reducible refine Kd.C_drew ?_))); (case side4 => exact (Kd.R_reads' HO240.out).2.1); (case side5 => exact far_slice (IsS40.own_ne HI234.out HO240.out (by decide))); rintro e w9 ⟨rfl, hi, hb, hk⟩; refine ⟨_, rfl, ?_⟩; have n0_ := Aside0.mk (Kd.R_mono (Kd.R_keep (IsS40.apart (show IsS40 w _ gb234 l0 t236 t237 from by repeat (first | (with_reducible first | exact HI234.out | apply IsS40.alloc | apply IsS40.drewN | apply IsS40.drew | apply IsS40.set_1 | apply IsS40.set_2) | exact HI234.out)) (by (with_reducible repeat (first | apply Kd.R_alloc | apply Kd.R_drewN | apply Kd.R_drew)); exact HO240.out) (by decide)) hk (fun _ h => h.2)) (fun _ h => h.1)); have n1_ := Aside0.mk (hb); have n2_ := Aside0.mk (hi); clear HO240; clear HB; clear HI234; have HO240 := n0_; have HB := n1_; have HI234 := n2_; clear n0_ n1_ n2_; (try clear hb); (try clear hb2); (try clear hk); (try clear hi)))
 go_ret2
 exact ⟨by first | rfl | (simp [errW_none, errW_some] <;> rfl) | (simp [*, errW_none, errW_some] <;> rfl), by repeat (first | (with_reducible first | exact HB.out | apply below_alloc | apply pw_below_drewN | apply below_drew1 | refine below_set ?_ (IsS40.ge HI234.out)) | exact HB.out)⟩

/-! ### spec_CountOfSum: function 19 -/
def spec_CountOfSum.f (k : Nat) (a0 : Int) (a1 : Int) : Option (Int × Bool) := (spec_diGood.f a0).bind fun t244 => (if t244 = true then (if a1 < 0 then (some (0, false)) else ((spec_diOfSum.f k a0 a1).bind fun t245 => (some (t245, true)))) else (some (0, false)))
theorem spec_CountOfSum.mono : ∀ a0 a1 k, LeO (spec_CountOfSum.f k a0 a1) (spec_CountOfSum.f (k + 1) a0 a1) := by
 intro a0 a1 k
 unfold spec_CountOfSum.f
 repeat' first
  | (with_reducible exact spec_diOfSum.mono _ _ _)
  | (with_reducible exact LeO.refl _)
  | (with_reducible exact LeO.none _)
  | (with_reducible refine LeO.ite ?_ ?_)
  | (with_reducible refine LeO.bind ?_ (fun _ => ?_))
  | exact spec_diOfSum.mono _ _ _
  | exact LeO.none _
  | refine LeO.ite ?_ ?_
  | refine LeO.bind ?_ (fun _ => ?_)
set_option maxHeartbeats 8000000 in
set_option maxRecDepth 100000 in
theorem spec_CountOfSum.calls (k : Nat) (a0 : Int) (a1 : Int) (r1 : Int) (r2 : Bool) (w : World) (h : spec_CountOfSum.f k a0 a1 = some (r1, r2)) :
 Calls Tryz.prog 19 #[.int .i64 a0, .int .i64 a1] w fun e w' => e = .returned (.tuple #[.int .i64 r1, .bool r2]) ∧ Below w.heap.size w w' := by
 have HB := Aside0.mk (Below.refl w.heap.size w)
 have H : ((spec_diGood.f a0).bind fun t244 => (if t244 = true then (if a1 < 0 then (some (0, false)) else ((spec_diOfSum.f k a0 a1).bind fun t245 => (some (t245, true)))) else (some (0, false)))) = some (r1, r2) := h
 clear h
 replace H := Option.bind_eq_some_iff.mp H
 obtain ⟨t244, A30, H⟩ := H
 have A3 := Aside0.mk A30
 clear A30
 by_cases c4 : t244 = true
 · subst c4
   have H1 : (if a1 < 0 then (some (0, false)) else ((spec_diOfSum.f k a0 a1).bind fun t245 => (some (t245, true)))) = some (r1, r2) := by rw [if_pos rfl] at H; exact H
   clear H
   have H := H1
   clear H1
   by_cases c5 : a1 < 0
   · rw [if_pos c5] at H
     have c5b0 : decide (a1 < 0) = true := decide_eq_true c5
     clear c5
     simp only [Option.some.injEq, Prod.mk.injEq] at H
     obtain ⟨rfl, rfl⟩ := H
     go_enter Tryz.func19, Tryz.ntmps19
     go_wp2_with (first | ((with_reducible refine gate_callee (f := 39) rfl ?_); refine goesL_ (some 7) rfl rfl Tryz.func39 (by kernel_rfl) rfl #[.int .i64 a0] rfl z5_0_ ?_; (with_reducible refine (spec_diGood.calls a0 true _ A3.out).mono ?_); rintro e w' ⟨rfl, ⟨nd, rfl⟩⟩; refine ⟨_, rfl, ?_⟩))
     go_ret2
     exact ⟨by first | rfl | (simp [errW_none, errW_some] <;> rfl) | (simp [*, errW_none, errW_some] <;> rfl), by repeat (first | (with_reducible first | exact HB.out | apply below_alloc | apply pw_below_drewN | apply below_drew1) | exact HB.out)⟩
   rw [if_neg c5] at H
   have c5b0 : decide (a1 < 0) = false := decide_eq_false c5
   clear c5
   replace H := Option.bind_eq_some_iff.mp H
   obtain ⟨t245, A60, H⟩ := H
   have A6 := Aside0.mk A60
   clear A60
   simp only [Option.some.injEq, Prod.mk.injEq] at H
   obtain ⟨rfl, rfl⟩ := H
   go_enter Tryz.func19, Tryz.ntmps19
   go_wp2_with (first | ((with_reducible refine gate_callee (f := 39) rfl ?_); refine goesL_ (some 7) rfl rfl Tryz.func39 (by kernel_rfl) rfl #[.int .i64 a0] rfl z5_0_ ?_; (with_reducible refine (spec_diGood.calls a0 true _ A3.out).mono ?_); rintro e w' ⟨rfl, ⟨nd, rfl⟩⟩; refine ⟨_, rfl, ?_⟩) | ((with_reducible refine gate_callee (f := 37) rfl ?_); refine goesL_ (some 15) rfl rfl Tryz.func37 (by kernel_rfl) rfl #[.int .i64 a0, .int .i64 a1] rfl z5_0_ ?_; (with_reducible refine (spec_diOfSum.calls k a0 a1 t245 _ A6.out).mono ?_); rintro e w7 ⟨rfl, hb⟩; refine ⟨_, rfl, ?_⟩; have n0_ := Aside0.mk (below_step z5_1_ hb); clear HB; have HB := n0_; clear n0_; (try clear hb); (try clear hb2); (try clear hk); (try clear hi)))
   go_ret2
   exact ⟨by first | rfl | (simp [errW_none, errW_some] <;> rfl) | (simp [*, errW_none, errW_some] <;> rfl), by repeat (first | (with_reducible first | exact HB.out | apply below_alloc | apply pw_below_drewN | apply below_drew1) | exact HB.out)⟩
 replace c4 := Bool.eq_false_iff.mpr c4
 subst c4
 have H1 : (some (0, false)) = some (r1, r2) := by rw [if_neg (show ¬ (false = true) by decide)] at H; exact H
 clear H
 have H := H1
 clear H1
 simp only [Option.some.injEq, Prod.mk.injEq] at H
 obtain ⟨rfl, rfl⟩ := H
 go_enter Tryz.func19, Tryz.ntmps19
 go_wp2_with (first | ((with_reducible refine gate_callee (f := 39) rfl ?_); refine goesL_ (some 7) rfl rfl Tryz.func39 (by kernel_rfl) rfl #[.int .i64 a0] rfl z5_0_ ?_; (with_reducible refine (spec_diGood.calls a0 false _ A3.out).mono ?_); rintro e w' ⟨rfl, ⟨nd, rfl⟩⟩; refine ⟨_, rfl, ?_⟩))
 go_ret2
 exact ⟨by first | rfl | (simp [errW_none, errW_some] <;> rfl) | (simp [*, errW_none, errW_some] <;> rfl), by repeat (first | (with_reducible first | exact HB.out | apply below_alloc | apply pw_below_drewN | apply below_drew1) | exact HB.out)⟩

/-! ### spec_DrawNumberOfSum: function 20 -/
def spec_DrawNumberOfSum.f (l0 : List Int) : Option (Int × Int) := (spec_l1Cur_among.f l0 0 0 (([1, 2, 5, 9, 10, 18, 107, 108, 109, 0] : List Int))).bind fun bt250 => ((spec_l1Cur_among.f l0 bt250.2.1 bt250.2.2 (([0, 1, 2, 5, 12, 13, 100, (-1), 4611686018427387904] : List Int))).bind fun bt256 => (some (bt250.1, bt256.1)))
set_option maxHeartbeats 8000000 in
set_option maxRecDepth 100000 in
theorem spec_DrawNumberOfSum.calls (A0 : Option Addr) (c0 : Nat) (l0 : List Int) (r1 : Int) (r2 : Int) (w : World) (hr0 : Kd.C (Kd.int .u8) w A0 l0.length l0) (hc0 : l0.length ≤ c0) (h : spec_DrawNumberOfSum.f l0 = some (r1, r2)) :
 Calls Tryz.prog 20 #[.slice A0 l0.length c0] w fun e w' => e = .returned (.tuple #[.int .i64 r1, .int .i64 r2]) ∧ Below w.heap.size w w' := by
 have hu40 := Tryz.underlying40
 have HR0 := Aside0.mk hr0
 have HC0 := Aside0.mk hc0
 clear hr0 hc0
 have HB := Aside0.mk (Below.refl w.heap.size w)
 have H : ((spec_l1Cur_among.f l0 0 0 (([1, 2, 5, 9, 10, 18, 107, 108, 109, 0] : List Int))).bind fun bt250 => ((spec_l1Cur_among.f l0 bt250.2.1 bt250.2.2 (([0, 1, 2, 5, 12, 13, 100, (-1), 4611686018427387904] : List Int))).bind fun bt256 => (some (bt250.1, bt256.1)))) = some (r1, r2) := h
 clear h
 obtain ⟨y247, hy247⟩ : ∃ y_ : List Int, y_ = (([1, 2, 5, 9, 10, 18, 107, 108, 109, 0] : List Int)) := ⟨_, rfl⟩
 replace H : ((spec_l1Cur_among.f l0 0 0 y247).bind fun bt250 => ((spec_l1Cur_among.f l0 bt250.2.1 bt250.2.2 (([0, 1, 2, 5, 12, 13, 100, (-1), 4611686018427387904] : List Int))).bind fun bt256 => (some (bt250.1, bt256.1)))) = some (r1, r2) := by first | (rw [hy247]; with_reducible exact H) | (have H2_ := (Option.bind_some _ _).symm.trans H; rw [hy247]; with_reducible exact H2_) | (have H2_ := (Option.bind_some _ _).symm.trans H; with_reducible exact H2_) | with_reducible exact H | (rw [hy247]; exact H) | exact H
 have Ny247 := Aside0.mk hy247
 clear hy247
 replace H := Option.bind_eq_some_iff.mp H
 obtain ⟨⟨t250, t251, t252⟩, A20, H⟩ := H
 dsimp only at H
 have A2 := Aside0.mk A20
 clear A20
 obtain ⟨y253, hy253⟩ : ∃ y_ : List Int, y_ = (([0, 1, 2, 5, 12, 13, 100, (-1), 4611686018427387904] : List Int)) := ⟨_, rfl⟩
 replace H : ((spec_l1Cur_among.f l0 t251 t252 y253).bind fun bt256 => (some (t250, bt256.1))) = some (r1, r2) := by first | (rw [hy253]; with_reducible exact H) | (have H2_ := (Option.bind_some _ _).symm.trans H; rw [hy253]; with_reducible exact H2_) | (have H2_ := (Option.bind_some _ _).symm.trans H; with_reducible exact H2_) | with_reducible exact H | (rw [hy253]; exact H) | exact H
 have Ny253 := Aside0.mk hy253
 clear hy253
 replace H := Option.bind_eq_some_iff.mp H
 obtain ⟨⟨t256, t257, t258⟩, A30, H⟩ := H
 dsimp only at H
 have A3 := Aside0.mk A30
 clear A30
 simp only [Option.some.injEq, Prod.mk.injEq] at H
 obtain ⟨rfl, rfl⟩ := H
 go_enter Tryz.func20, Tryz.ntmps20
 go_wp2_with (first | ((with_reducible refine gate_dst (N := 8) rfl ?_); refine box_event ?hg (N := 8) ?hd (cs := #[.slice A0 l0.length c0, .int .i64 0, .int .u64 0]) (t := 40) ?hr ?_; (case hd => rfl); (case hg => rfl); (case hr => first | (go_simp; done) | (go_simp; rfl)); intro gb246 hg w4 hbox hb; have n0_ := Aside0.mk (below_step z5_1_ hb); have n1_ := Aside0.mk ((⟨_, _, hbox, (by rw [hg]; exact (below_size z5_1_) : w.heap.size ≤ gb246), HR0.out⟩ : IsS40 w w4 gb246 l0 0 0)); clear HB; have HB := n0_; have HI246 := n1_; clear n0_ n1_; clear hb hbox hg) | ((with_reducible refine gate_dst (N := 10) rfl ?_); refine Kd.R_lit (Kd.int .i64) _ 3 ?hg (N := 10) ?hd (xs := ([1, 2, 5, 9, 10, 18, 107, 108, 109, 0] : List Int)) (inner := [.int .i64 1, .int .i64 2, .int .i64 5, .int .i64 9, .int .i64 10, .int .i64 18, .int .i64 107, .int .i64 108, .int .i64 109, .int .i64 0]) (ok := fun _ => True) (okp := fun _ => True) ?hr ?hp (fun _ hk => hk) trivial (Below.refl _ _) (Nat.le_refl _) (by simp) ?_; (case hd => rfl); (case hg => rfl); (case hr => first | (go_simp; done) | (go_simp; rfl)); (case hp => exact (Reps.one (show Kd.M (Kd.int .i64) _ _ _ 1 [.int .i64 1] from rfl) (Reps.one (show Kd.M (Kd.int .i64) _ _ _ 2 [.int .i64 2] from rfl) (Reps.one (show Kd.M (Kd.int .i64) _ _ _ 5 [.int .i64 5] from rfl) (Reps.one (show Kd.M (Kd.int .i64) _ _ _ 9 [.int .i64 9] from rfl) (Reps.one (show Kd.M (Kd.int .i64) _ _ _ 10 [.int .i64 10] from rfl) (Reps.one (show Kd.M (Kd.int .i64) _ _ _ 18 [.int .i64 18] from rfl) (Reps.one (show Kd.M (Kd.int .i64) _ _ _ 107 [.int .i64 107] from rfl) (Reps.one (show Kd.M (Kd.int .i64) _ _ _ 108 [.int .i64 108] from rfl) (Reps.one (show Kd.M (Kd.int .i64) _ _ _ 109 [.int .i64 109] from rfl) (Reps.one (show Kd.M (Kd.int .i64) _ _ _ 0 [.int .i64 0] from rfl) (Reps.none _ _)))))))))))); intro v248 w5 ho6 hb hg_ hnew_; clear hg_ hnew_; (first | rw [← Ny247.out] at ho6 | (simp only [Int.reduceToNat] at ho6; rw [← Ny247.out] at ho6)); have n0_ := Aside0.mk (Kd.R_lower ho6 (below_size z5_2_)); have n1_ := Aside0.mk (IsS40.below (by repeat (first | (with_reducible first | exact HI246.out | apply IsS40.alloc | apply IsS40.drewN | apply IsS40.drew | apply IsS40.set_1 | apply IsS40.set_2) | exact HI246.out)) hb); have n2_ := Aside0.mk (below_step z5_2_ hb); clear HI246; clear HB; have HO249 := n0_; have HI246 := n1_; have HB := n2_; clear n0_ n1_ n2_; clear hb ho6; obtain ⟨Ao7, co7, eo7⟩ := Kd.R_slice HO249.out; subst eo7) | ((with_reducible refine gate_callee (f := 45) rfl ?_); refine goesL_ (some 11) rfl rfl Tryz.func45 (by kernel_rfl) rfl #[.pointer (some ⟨gb246, 0, none⟩), .slice Ao7 y247.length co7] rfl z5_0_ ?_; (with_reducible refine (spec_l1Cur_among.calls gb246 l0 0 0 _ _ y247 t250 t251 t252 w _ ?side1 ?side2 ?side3 ?side4 ?side5 A2.out).mono ?_); (case side1 => repeat (first | (with_reducible first | exact HI246.out | apply IsS40.alloc | apply IsS40.drewN | apply IsS40.drew | apply IsS40.set_1 | apply IsS40.set_2) | exact HI246.out)); (case side2 => repeat (first | (with_reducible first | exact HB.out | apply below_alloc | apply pw_below_drewN | apply below_drew1 | refine below_set ?_ (IsS40.ge HI246.out)) | exact HB.out)); (case side3 => repeat (first | exact (Kd.R_reads' HO249.out).2.2 | (with_reducible refine Kd.C_alloc ?_ _) | (with_reducible refine Kd.C_drewN ?_ _) | (with_reducible refine Kd.C_drew ?_))); (case side4 => exact (Kd.R_reads' HO249.out).2.1); (case side5 => exact far_slice (IsS40.own_ne HI246.out HO249.out (by decide))); rintro e w8 ⟨rfl, hi, hb, hk⟩; refine ⟨_, rfl, ?_⟩; have n0_ := Aside0.mk (Kd.R_mono (Kd.R_keep (IsS40.apart (show IsS40 w _ gb246 l0 0 0 from by repeat (first | (with_reducible first | exact HI246.out | apply IsS40.alloc | apply IsS40.drewN | apply IsS40.drew | apply IsS40.set_1 | apply IsS40.set_2) | exact HI246.out)) z5_4_ (by decide)) hk (fun _ h => h.2)) (fun _ h => h.1)); have n1_ := Aside0.mk (hb); have n2_ := Aside0.mk (hi); clear HO249; clear HB; clear HI246; have HO249 := n0_; have HB := n1_; have HI246 := n2_; clear n0_ n1_ n2_; (try clear hb); (try clear hb2); (try clear hk); (try clear hi)) | ((with_reducible refine gate_dst (N := 14) rfl ?_); refine Kd.R_lit (Kd.int .i64) _ 3 ?hg (N := 14) ?hd (xs := ([0, 1, 2, 5, 12, 13, 100, (-1), 4611686018427387904] : List Int)) (inner := [.int .i64 0, .int .i64 1, .int .i64 2, .int .i64 5, .int .i64 12, .int .i64 13, .int .i64 100, .int .i64 (-1), .int .i64 4611686018427387904]) (ok := fun _ => True) (okp := fun _ => True) ?hr ?hp (fun _ hk => hk) trivial (Below.refl _ _) (Nat.le_refl _) (by simp) ?_; (case hd => rfl); (case hg => rfl); (case hr => first | (go_simp; done) | (go_simp; rfl)); (case hp => exact (Reps.one (show Kd.M (Kd.int .i64) _ _ _ 0 [.int .i64 0] from rfl) (Reps.one (show Kd.M (Kd.int .i64) _ _ _ 1 [.int .i64 1] from rfl) (Reps.one (show Kd.M (Kd.int .i64) _ _ _ 2 [.int .i64 2] from rfl) (Reps.one (show Kd.M (Kd.int .i64) _ _ _ 5 [.int .i64 5] from rfl) (Reps.one (show Kd.M (Kd.int .i64) _ _ _ 12 [.int .i64 12] from rfl) (Reps.one (show Kd.M (Kd.int .i64) _ _ _ 13 [.int .i64 13] from rfl) (Reps.one (show Kd.M (Kd.int .i64) _ _ _ 100 [.int .i64 100] from rfl) (Reps.one (show Kd.M (Kd.int .i64) _ _ _ (-1) [.int .i64 (-1)] from rfl) (Reps.one (show Kd.M (Kd.int .i64) _ _ _ 4611686018427387904 [.int .i64 4611686018427387904] from rfl) (Reps.none _ _))))))))))); intro v254 w9 ho10 hb hg_ hnew_; clear hg_ hnew_; (first | rw [← Ny253.out] at ho10 | (simp only [Int.reduceToNat] at ho10; rw [← Ny253.out] at ho10)); have n0_ := Aside0.mk (Kd.R_elder' z5_4_ (Kd.R_base ho10) hb); have n1_ := Aside0.mk (Kd.R_lower (Kd.R_new' ho10 (Kd.R_lt z5_4_)) (below_size z5_2_)); have n2_ := Aside0.mk (IsS40.below (by repeat (first | (with_reducible first | exact HI246.out | apply IsS40.alloc | apply IsS40.drewN | apply IsS40.drew | apply IsS40.set_1 | apply IsS40.set_2) | exact HI246.out)) hb); have n3_ := Aside0.mk (below_step z5_2_ hb); clear HO249; clear HI246; clear HB; have HO249 := n0_; have HO255 := n1_; have HI246 := n2_; have HB := n3_; clear n0_ n1_ n2_ n3_; clear hb ho10; obtain ⟨Ao11, co11, eo11⟩ := Kd.R_slice HO255.out; subst eo11) | ((with_reducible refine gate_callee (f := 45) rfl ?_); refine goesL_ (some 15) rfl rfl Tryz.func45 (by kernel_rfl) rfl #[.pointer (some ⟨gb246, 0, none⟩), .slice Ao11 y253.length co11] rfl z5_0_ ?_; (with_reducible refine (spec_l1Cur_among.calls gb246 l0 t251 t252 _ _ y253 t256 t257 t258 w _ ?side1 ?side2 ?side3 ?side4 ?side5 A3.out).mono ?_); (case side1 => repeat (first | (with_reducible first | exact HI246.out | apply IsS40.alloc | apply IsS40.drewN | apply IsS40.drew | apply IsS40.set_1 | apply IsS40.set_2) | exact HI246.out)); (case side2 => repeat (first | (with_reducible first | exact HB.out | apply below_alloc | apply pw_below_drewN | apply below_drew1 | refine below_set ?_ (IsS40.ge HI246.out)) | exact HB.out)); (case side3 => repeat (first | exact (Kd.R_reads' HO255.out).2.2 | (with_reducible refine Kd.C_alloc ?_ _) | (with_reducible refine Kd.C_drewN ?_ _) | (with_reducible refine Kd.C_drew ?_))); (case side4 => exact (Kd.R_reads' HO255.out).2.1); (case side5 => exact far_slice (IsS40.own_ne HI246.out HO255.out (by decide))); rintro e w12 ⟨rfl, hi, hb, hk⟩; refine ⟨_, rfl, ?_⟩; have n0_ := Aside0.mk (Kd.R_mono (Kd.R_keep (IsS40.apart (show IsS40 w _ gb246 l0 t251 t252 from by repeat (first | (with_reducible first | exact HI246.out | apply IsS40.alloc | apply IsS40.drewN | apply IsS40.drew | apply IsS40.set_1 | apply IsS40.set_2) | exact HI246.out)) z5_4_ (by decide)) hk (fun _ h => h.2)) (fun _ h => h.1)); have n1_ := Aside0.mk (Kd.R_mono (Kd.R_keep (IsS40.apart (show IsS40 w _ gb246 l0 t251 t252 from by repeat (first | (with_reducible first | exact HI246.out | apply IsS40.alloc | apply IsS40.drewN | apply IsS40.drew | apply IsS40.set_1 | apply IsS40.set_2) | exact HI246.out)) (by (with_reducible repeat (first | apply Kd.R_alloc | apply Kd.R_drewN | apply Kd.R_drew)); exact HO255.out) (by decide)) hk (fun _ h => h.2)) (fun _ h => h.1)); have n2_ := Aside0.mk (hb); have n3_ := Aside0.mk (hi); clear HO249; clear HO255; clear HB; clear HI246; have HO249 := n0_; have HO255 := n1_; have HB := n2_; have HI246 := n3_; clear n0_ n1_ n2_ n3_; (try clear hb); (try clear hb2); (try clear hk); (try clear hi)))
 go_ret2
 exact ⟨by first | rfl | (simp [errW_none, errW_some] <;> rfl) | (simp [*, errW_none, errW_some] <;> rfl), by repeat (first | (with_reducible first | exact HB.out | apply below_alloc | apply pw_below_drewN | apply below_drew1 | refine below_set ?_ (IsS40.ge HI246.out)) | exact HB.out)⟩

/-! ### spec_NumberOfSum: function 21 -/
def spec_NumberOfSum.f (k : Nat) (a0 : Int) (a1 : Int) : Option (Int × Bool) := (spec_l1In.f a0 1 108).bind fun t259 => (if t259 = true then (if a1 < 0 then (some (0, false)) else ((spec_diOfRank.f k a0 a1).bind fun bt260 => (some (bt260.1, bt260.2)))) else (some (0, false)))
theorem spec_NumberOfSum.mono : ∀ a0 a1 k, LeO (spec_NumberOfSum.f k a0 a1) (spec_NumberOfSum.f (k + 1) a0 a1) := by
 intro a0 a1 k
 unfold spec_NumberOfSum.f
 repeat' first
  | (with_reducible exact spec_diOfRank.mono _ _ _)
  | (with_reducible exact LeO.refl _)
  | (with_reducible exact LeO.none _)
  | (with_reducible refine LeO.ite ?_ ?_)
  | (with_reducible refine LeO.bind ?_ (fun _ => ?_))
  | exact spec_diOfRank.mono _ _ _
  | exact LeO.none _
  | refine LeO.ite ?_ ?_
  | refine LeO.bind ?_ (fun _ => ?_)
set_option maxHeartbeats 8000000 in
set_option maxRecDepth 100000 in
theorem spec_NumberOfSum.calls (k : Nat) (a0 : Int) (a1 : Int) (r1 : Int) (r2 : Bool) (w : World) (h : spec_NumberOfSum.f k a0 a1 = some (r1, r2)) :
 Calls Tryz.prog 21 #[.int .i64 a0, .int .i64 a1] w fun e w' => e = .returned (.tuple #[.int .i64 r1, .bool r2]) ∧ Below w.heap.size w w' := by
 have HB := Aside0.mk (Below.refl w.heap.size w)
 have H : ((spec_l1In.f a0 1 108).bind fun t259 => (if t259 = true then (if a1 < 0 then (some (0, false)) else ((spec_diOfRank.f k a0 a1).bind fun bt260 => (some (bt260.1, bt260.2)))) else (some (0, false)))) = some (r1, r2) := h
 clear h
 replace H := Option.bind_eq_some_iff.mp H
 obtain ⟨t259, A30, H⟩ := H
 have A3 := Aside0.mk A30
 clear A30
 by_cases c4 : t259 = true
 · subst c4
   have H1 : (if a1 < 0 then (some (0, false)) else ((spec_diOfRank.f k a0 a1).bind fun bt260 => (some (bt260.1, bt260.2)))) = some (r1, r2) := by rw [if_pos rfl] at H; exact H
   clear H
   have H := H1
   clear H1
   by_cases c5 : a1 < 0
   · rw [if_pos c5] at H
     have c5b0 : decide (a1 < 0) = true := decide_eq_true c5
     clear c5
     simp only [Option.some.injEq, Prod.mk.injEq] at H
     obtain ⟨rfl, rfl⟩ := H
     go_enter Tryz.func21, Tryz.ntmps21
     go_wp2_with (first | ((with_reducible refine gate_callee (f := 34) rfl ?_); refine goesL_ (some 7) rfl rfl Tryz.func34 (by kernel_rfl) rfl #[.int .i64 a0, .int .i64 1, .int .i64 108] rfl z5_0_ ?_; (with_reducible refine (spec_l1In.calls a0 1 108 true _ A3.out).mono ?_); rintro e w' ⟨rfl, ⟨nd, rfl⟩⟩; refine ⟨_, rfl, ?_⟩))
     go_ret2
     exact ⟨by first | rfl | (simp [errW_none, errW_some] <;> rfl) | (simp [*, errW_none, errW_some] <;> rfl), by repeat (first | (with_reducible first | exact HB.out | apply below_alloc | apply pw_below_drewN | apply below_drew1) | exact HB.out)⟩
   rw [if_neg c5] at H
   have c5b0 : decide (a1 < 0) = false := decide_eq_false c5
   clear c5
   replace H := Option.bind_eq_some_iff.mp H
   obtain ⟨⟨t260, t261⟩, A60, H⟩ := H
   dsimp only at H
   have A6 := Aside0.mk A60
   clear A60
   simp only [Option.some.injEq, Prod.mk.injEq] at H
   obtain ⟨rfl, rfl⟩ := H
   go_enter Tryz.func21, Tryz.ntmps21
   go_wp2_with (first | ((with_reducible refine gate_callee (f := 34) rfl ?_); refine goesL_ (some 7) rfl rfl Tryz.func34 (by kernel_rfl) rfl #[.int .i64 a0, .int .i64 1, .int .i64 108] rfl z5_0_ ?_; (with_reducible refine (spec_l1In.calls a0 1 108 true _ A3.out).mono ?_); rintro e w' ⟨rfl, ⟨nd, rfl⟩⟩; refine ⟨_, rfl, ?_⟩) | ((with_reducible refine gate_callee (f := 35) rfl ?_); refine goesL_ (some 15) rfl rfl Tryz.func35 (by kernel_rfl) rfl #[.int .i64 a0, .int .i64 a1] rfl z5_0_ ?_; (with_reducible refine (spec_diOfRank.calls k a0 a1 t260 t261 _ A6.out).mono ?_); rintro e w7 ⟨rfl, hb⟩; refine ⟨_, rfl, ?_⟩; have n0_ := Aside0.mk (below_step z5_1_ hb); clear HB; have HB := n0_; clear n0_; (try clear hb); (try clear hb2); (try clear hk); (try clear hi)))
   go_ret2
   exact ⟨by first | rfl | (simp [errW_none, errW_some] <;> rfl) | (simp [*, errW_none, errW_some] <;> rfl), by repeat (first | (with_reducible first | exact HB.out | apply below_alloc | apply pw_below_drewN | apply below_drew1) | exact HB.out)⟩
 replace c4 := Bool.eq_false_iff.mpr c4
 subst c4
 have H1 : (some (0, false)) = some (r1, r2) := by rw [if_neg (show ¬ (false = true) by decide)] at H; exact H
 clear H
 have H := H1
 clear H1
 simp only [Option.some.injEq, Prod.mk.injEq] at H
 obtain ⟨rfl, rfl⟩ := H
 go_enter Tryz.func21, Tryz.ntmps21
 go_wp2_with (first | ((with_reducible refine gate_callee (f := 34) rfl ?_); refine goesL_ (some 7) rfl rfl Tryz.func34 (by kernel_rfl) rfl #[.int .i64 a0, .int .i64 1, .int .i64 108] rfl z5_0_ ?_; (with_reducible refine (spec_l1In.calls a0 1 108 false _ A3.out).mono ?_); rintro e w' ⟨rfl, ⟨nd, rfl⟩⟩; refine ⟨_, rfl, ?_⟩))
 go_ret2
 exact ⟨by first | rfl | (simp [errW_none, errW_some] <;> rfl) | (simp [*, errW_none, errW_some] <;> rfl), by repeat (first | (with_reducible first | exact HB.out | apply below_alloc | apply pw_below_drewN | apply below_drew1) | exact HB.out)⟩

/-! ### spec_l1Cur_one: function 68 -/
def spec_l1Cur_one.f (s0_0 : List Int) (s0_1 : Int) (s0_2 : Int) (a1 : Int) : Option (Bool × Int × Int) := (spec_l1Cur_pick.f s0_0 s0_1 s0_2 a1).bind fun bt262 => (some ((bt262.1 == 0), bt262.2.1, bt262.2.2))
set_option maxHeartbeats 8000000 in
set_option maxRecDepth 100000 in
theorem spec_l1Cur_one.calls (g : Nat) (s0_0 : List Int) (s0_1 : Int) (s0_2 : Int) (a1 : Int) (r1 : Bool) (r2 : Int) (r3 : Int) (w0 w : World) (hI : IsS40 w0 w g s0_0 s0_1 s0_2) (hB : Below w0.heap.size w0 w) (h : spec_l1Cur_one.f s0_0 s0_1 s0_2 a1 = some (r1, r2, r3)) :
 Calls Tryz.prog 68 #[.pointer (some ⟨g, 0, none⟩), .int .i64 a1] w fun e w' => e = .returned (.bool r1) ∧ IsS40 w0 w' g s0_0 r2 r3 ∧ Below w0.heap.size w0 w' ∧ KeepBut w w' g none := by
 have HI0 := Aside0.mk hI
 have HK := Aside0.mk (KeepBut.refl w g none)
 have HL := Aside0.mk hB.size
 clear hI
 have HW0 := Aside0.mk hB.size
 have HB := Aside0.mk hB
 clear hB
 have H : ((spec_l1Cur_pick.f s0_0 s0_1 s0_2 a1).bind fun bt262 => (some ((bt262.1 == 0), bt262.2.1, bt262.2.2))) = some (r1, r2, r3) := h
 clear h
 replace H := Option.bind_eq_some_iff.mp H
 obtain ⟨⟨t262, t263, t264⟩, A30, H⟩ := H
 dsimp only at H
 have A3 := Aside0.mk A30
 clear A30
 simp only [Option.some.injEq, Prod.mk.injEq] at H
 obtain ⟨rfl, rfl, rfl⟩ := H
 go_enter Tryz.func68, Tryz.ntmps68
 go_wp2_with (first | ((with_reducible refine gate_callee (f := 64) rfl ?_); refine goesL_ (some 7) rfl rfl Tryz.func64 (by kernel_rfl) rfl #[.pointer (some ⟨g, 0, none⟩), .int .i64 a1] rfl z5_0_ ?_; (with_reducible refine (spec_l1Cur_pick.calls g s0_0 s0_1 s0_2 a1 t262 t263 t264 w0 _ ?side1 ?side2 A3.out).mono ?_); (case side1 => repeat (first | (with_reducible first | exact HI0.out | apply IsS40.alloc | apply IsS40.drewN | apply IsS40.drew | apply IsS40.set_1 | apply IsS40.set_2) | exact HI0.out)); (case side2 => repeat (first | (with_reducible first | exact HB.out | apply below_alloc | apply pw_below_drewN | apply below_drew1 | refine below_set ?_ (IsS40.ge HI0.out)) | exact HB.out)); rintro e w4 ⟨rfl, hi, hb, hk⟩; refine ⟨_, rfl, ?_⟩; have n0_ := Aside0.mk (KeepBut.trans (by repeat (first | (with_reducible first | exact HK.out | apply KeepBut.set_ | apply keep_drewN | apply keep_drew | apply keep_alloc) | exact HK.out)) hk (.inl rfl)); have n1_ := Aside0.mk (hb); have n2_ := Aside0.mk (hi); clear HK; clear HB; clear HI0; have HK := n0_; have HB := n1_; have HI0 := n2_; clear n0_ n1_ n2_; (try clear hb); (try clear hb2); (try clear hk); (try clear hi)))
 go_ret
 exact ⟨by first | rfl | (simp [errW_none, errW_some] <;> rfl) | (simp [*, errW_none, errW_some] <;> rfl), by repeat (first | (with_reducible first | exact HI0.out | apply IsS40.alloc | apply IsS40.drewN | apply IsS40.drew | apply IsS40.set_1 | apply IsS40.set_2) | exact HI0.out), by repeat (first | (with_reducible first | exact HB.out | apply below_alloc | apply pw_below_drewN | apply below_drew1 | refine below_set ?_ (IsS40.ge HI0.out)) | exact HB.out), by repeat (first | (with_reducible first | exact HK.out | apply KeepBut.set_ | apply keep_drewN | apply keep_drew | apply keep_alloc) | exact HK.out)⟩

end Go.Proofs.YtjpbadckmackbaaGreatDoor.PFnDigitsSummed

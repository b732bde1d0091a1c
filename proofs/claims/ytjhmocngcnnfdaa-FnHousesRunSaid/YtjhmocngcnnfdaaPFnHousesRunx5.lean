-- Laid by this session's program gprint.py over the kit's print.
import Derived.Test.YtjhmocngcnnfdaaPFnHousesRunx0
import Derived.Test.YtjhmocngcnnfdaaPFnHousesRunx1
import Derived.Test.YtjhmocngcnnfdaaPFnHousesRunx4
namespace Go.Proofs.Ytjhmocngcnnfdaa.PFnHousesRun
open Go.RowKit Go.Proofs.YtjhmocngcnnfdaaW.PrintWords Go.Proofs.YtjhmocngcnnfdaaW.PrintLast Go.Proofs.YtjhmocngcnnfdaaW.PrintMore
attribute [local go_sem] max2_int min2_int max_two min_two max_three min_three max_four min_four   -- for this text's walks alone
set_option linter.unusedVariables false
set_option linter.unusedSimpArgs false
theorem z5_0_ {p : Prop} (h : p := by (try simp only [List.map_toArray, List.map_cons, List.map_nil]); first | done | rfl | (simp only [List.length_drop, List.length_take]; rfl)) : p := h
theorem z5_1_ {p : Prop} (h : p := by first | rfl | (simp; done) | (simp [*]; done)) : p := h
theorem z5_2_ {p : Prop} (h : p := by repeat (first | (with_reducible first | exact HB.out | apply below_alloc | apply pw_below_drewN | apply below_drew1) | exact HB.out)) : p := h
theorem z5_3_ {p : Prop} (h : p := by first | (with_reducible assumption) | assumption) : p := h

/-! ### spec_OppositeAround: function 31 -/
def spec_OppositeAround.f (a0 : Int) (a1 : Int) : Option (Int × Bool) := (spec_hoMost.f a0).bind fun t279 => (if t279 = true then (if (Int.tmod a0 2) = 0 then ((spec_l1In.f a1 1 a0).bind fun t280 => (if t280 = true then (some (wrap64 ((wrap64 (a0 + 1)) - a1), true)) else (some (0, false)))) else (some (0, false))) else (some (0, false)))
set_option maxHeartbeats 8000000 in
set_option maxRecDepth 100000 in
theorem spec_OppositeAround.calls (a0 : Int) (a1 : Int) (r1 : Int) (r2 : Bool) (w : World) (h : spec_OppositeAround.f a0 a1 = some (r1, r2)) :
 Calls Try.prog 31 #[.int .i64 a0, .int .i64 a1] w fun e w' => e = .returned (.tuple #[.int .i64 r1, .bool r2]) ∧ Drawn0 w w' := by
 have H : ((spec_hoMost.f a0).bind fun t279 => (if t279 = true then (if (Int.tmod a0 2) = 0 then ((spec_l1In.f a1 1 a0).bind fun t280 => (if t280 = true then (some (wrap64 ((wrap64 (a0 + 1)) - a1), true)) else (some (0, false)))) else (some (0, false))) else (some (0, false)))) = some (r1, r2) := h
 clear h
 replace H := Option.bind_eq_some_iff.mp H
 obtain ⟨t279, A30, H⟩ := H
 have A3 := Aside0.mk A30
 clear A30
 by_cases c4 : t279 = true
 · subst c4
   have H1 : (if (Int.tmod a0 2) = 0 then ((spec_l1In.f a1 1 a0).bind fun t280 => (if t280 = true then (some (wrap64 ((wrap64 (a0 + 1)) - a1), true)) else (some (0, false)))) else (some (0, false))) = some (r1, r2) := by rw [if_pos rfl] at H; exact H
   clear H
   have H := H1
   clear H1
   by_cases c5 : (Int.tmod a0 2) = 0
   · rw [if_pos c5] at H
     have c5b0 : ((Int.tmod a0 2) == 0) = true := beq_iff_eq.mpr c5
     have c5b1 : ((Int.tmod a0 2) != 0) = false := bne_eq_false_iff_eq.mpr c5
     clear c5
     replace H := Option.bind_eq_some_iff.mp H
     obtain ⟨t280, A60, H⟩ := H
     have A6 := Aside0.mk A60
     clear A60
     by_cases c7 : t280 = true
     · subst c7
       have H1 : (some (wrap64 ((wrap64 (a0 + 1)) - a1), true)) = some (r1, r2) := by rw [if_pos rfl] at H; exact H
       clear H
       have H := H1
       clear H1
       simp only [Option.some.injEq, Prod.mk.injEq] at H
       obtain ⟨rfl, rfl⟩ := H
       go_enter Try.func31, Try.ntmps31
       go_wp2_with (first | ((with_reducible refine gate_callee (f := 73) rfl ?_); refine goesL_ (some 7) rfl rfl Try.func73 (by kernel_rfl) rfl #[.int .i64 a0] rfl z5_0_ ?_; (with_reducible refine (spec_hoMost.calls a0 true _ A3.out).mono ?_); rintro e w' ⟨rfl, ⟨nd, rfl⟩⟩; refine ⟨_, rfl, ?_⟩) | (go_at_call 66; (with_reducible refine (spec_l1In.calls a1 1 a0 true _ A6.out).mono ?_); rintro e w' ⟨rfl, ⟨nd, rfl⟩⟩))
       go_ret2
       exact ⟨by first | rfl | (simp; done) | (simp [*]; done), by repeat (first | exact Drawn0.refl _ | apply Drawn0.step)⟩
     replace c7 := Bool.eq_false_iff.mpr c7
     subst c7
     have H1 : (some (0, false)) = some (r1, r2) := by rw [if_neg (show ¬ (false = true) by decide)] at H; exact H
     clear H
     have H := H1
     clear H1
     simp only [Option.some.injEq, Prod.mk.injEq] at H
     obtain ⟨rfl, rfl⟩ := H
     go_enter Try.func31, Try.ntmps31
     go_wp2_with (first | ((with_reducible refine gate_callee (f := 73) rfl ?_); refine goesL_ (some 7) rfl rfl Try.func73 (by kernel_rfl) rfl #[.int .i64 a0] rfl z5_0_ ?_; (with_reducible refine (spec_hoMost.calls a0 true _ A3.out).mono ?_); rintro e w' ⟨rfl, ⟨nd, rfl⟩⟩; refine ⟨_, rfl, ?_⟩) | (go_at_call 66; (with_reducible refine (spec_l1In.calls a1 1 a0 false _ A6.out).mono ?_); rintro e w' ⟨rfl, ⟨nd, rfl⟩⟩))
     go_ret2
     exact ⟨by first | rfl | (simp; done) | (simp [*]; done), by repeat (first | exact Drawn0.refl _ | apply Drawn0.step)⟩
   rw [if_neg c5] at H
   have c5b0 : ((Int.tmod a0 2) == 0) = false := beq_eq_false_iff_ne.mpr c5
   have c5b1 : ((Int.tmod a0 2) != 0) = true := bne_iff_ne.mpr c5
   simp only [Option.some.injEq, Prod.mk.injEq] at H
   obtain ⟨rfl, rfl⟩ := H
   go_enter Try.func31, Try.ntmps31
   go_wp2_with (first | ((with_reducible refine gate_callee (f := 73) rfl ?_); refine goesL_ (some 7) rfl rfl Try.func73 (by kernel_rfl) rfl #[.int .i64 a0] rfl z5_0_ ?_; (with_reducible refine (spec_hoMost.calls a0 true _ A3.out).mono ?_); rintro e w' ⟨rfl, ⟨nd, rfl⟩⟩; refine ⟨_, rfl, ?_⟩))
   go_ret2
   exact ⟨by first | rfl | (simp; done) | (simp [*]; done), by repeat (first | exact Drawn0.refl _ | apply Drawn0.step)⟩
 replace c4 := Bool.eq_false_iff.mpr c4
 subst c4
 have H1 : (some (0, false)) = some (r1, r2) := by rw [if_neg (show ¬ (false = true) by decide)] at H; exact H
 clear H
 have H := H1
 clear H1
 simp only [Option.some.injEq, Prod.mk.injEq] at H
 obtain ⟨rfl, rfl⟩ := H
 go_enter Try.func31, Try.ntmps31
 go_wp2_with (first | ((with_reducible refine gate_callee (f := 73) rfl ?_); refine goesL_ (some 7) rfl rfl Try.func73 (by kernel_rfl) rfl #[.int .i64 a0] rfl z5_0_ ?_; (with_reducible refine (spec_hoMost.calls a0 false _ A3.out).mono ?_); rintro e w' ⟨rfl, ⟨nd, rfl⟩⟩; refine ⟨_, rfl, ?_⟩))
 go_ret2
 exact ⟨by first | rfl | (simp; done) | (simp [*]; done), by repeat (first | exact Drawn0.refl _ | apply Drawn0.step)⟩

/-! ### impl_NeighbourSums: function 32 -/
mutual
def impl_NeighbourSums.j0 : Nat → Int → Int → Bool → Option (Int × Int × Bool)
 | 0, _, _, _ => none
 | k + 1, x0, x1, x19 => if x19 = true then (some (0, 0, false)) else ((some (([wrap64 (x1 - 1), wrap64 (x1 + 1)] : List Int) : List Int)).bind fun y283 => (impl_NeighbourSums.l0 k x0 0 0 y283 (y283.length : Int) 0))
def impl_NeighbourSums.l0 : Nat → Int → Int → Int → List Int → Int → Int → Option (Int × Int × Bool)
 | 0, _, _, _, _, _, _ => none
 | k + 1, x0, x7, x8, x24, x25, x26 => if x26 < x25 then (if 0 ≤ x26 then (if x26 < (x24.length : Int) then ((impl_within.f (rd x24 x26) 1 x0).bind fun t287 => (if t287 = true then (impl_NeighbourSums.l0 k x0 (wrap64 (x7 + (rd x24 x26))) (wrap64 (x8 + 1)) x24 x25 (wrap64 (x26 + 1))) else (impl_NeighbourSums.l0 k x0 x7 x8 x24 x25 (wrap64 (x26 + 1))))) else (none)) else (none)) else (some (x7, x8, true))
end
def impl_NeighbourSums.f (k : Nat) (a0 : Int) (a1 : Int) : Option (Int × Int × Bool) := (impl_within.f a0 2 1000000).bind fun t281 => (if t281 = true then ((impl_within.f a1 1 a0).bind fun t282 => (impl_NeighbourSums.j0 k a0 a1 (!t282))) else (impl_NeighbourSums.j0 k a0 a1 true))
theorem impl_NeighbourSums.mono_l : ∀ k, (∀ y0 y1 y2, LeO (impl_NeighbourSums.j0 k y0 y1 y2) (impl_NeighbourSums.j0 (k + 1) y0 y1 y2)) ∧ (∀ y0 y1 y2 y3 y4 y5, LeO (impl_NeighbourSums.l0 k y0 y1 y2 y3 y4 y5) (impl_NeighbourSums.l0 (k + 1) y0 y1 y2 y3 y4 y5))
 | 0 => ⟨fun _ _ _ r h => by simp [impl_NeighbourSums.j0] at h, fun _ _ _ _ _ _ r h => by simp [impl_NeighbourSums.l0] at h⟩
 | k + 1 => by
  obtain ⟨ih0, ih1⟩ := impl_NeighbourSums.mono_l k
  refine ⟨?_, ?_⟩
  · intro y0 y1 y2
    unfold impl_NeighbourSums.j0
    repeat' first
    | (with_reducible exact ih0 _ _ _)
    | (with_reducible exact ih1 _ _ _ _ _ _)
    | (with_reducible exact LeO.refl _)
    | (with_reducible exact LeO.none _)
    | (with_reducible refine LeO.ite ?_ ?_)
    | (with_reducible refine LeO.bind ?_ (fun _ => ?_))
    | exact ih0 _ _ _
    | exact ih1 _ _ _ _ _ _
    | exact LeO.none _
    | refine LeO.ite ?_ ?_
    | refine LeO.bind ?_ (fun _ => ?_)
  intro y0 y1 y2 y3 y4 y5
  unfold impl_NeighbourSums.l0
  repeat' first
  | (with_reducible exact ih0 _ _ _)
  | (with_reducible exact ih1 _ _ _ _ _ _)
  | (with_reducible exact LeO.refl _)
  | (with_reducible exact LeO.none _)
  | (with_reducible refine LeO.ite ?_ ?_)
  | (with_reducible refine LeO.bind ?_ (fun _ => ?_))
  | exact ih0 _ _ _
  | exact ih1 _ _ _ _ _ _
  | exact LeO.none _
  | refine LeO.ite ?_ ?_
  | refine LeO.bind ?_ (fun _ => ?_)
theorem impl_NeighbourSums.mono : ∀ a0 a1 k, LeO (impl_NeighbourSums.f k a0 a1) (impl_NeighbourSums.f (k + 1) a0 a1) := by
 intro a0 a1 k
 obtain ⟨ih0, ih1⟩ := impl_NeighbourSums.mono_l k
 unfold impl_NeighbourSums.f
 repeat' first
  | (with_reducible exact ih0 _ _ _)
  | (with_reducible exact ih1 _ _ _ _ _ _)
  | (with_reducible exact LeO.refl _)
  | (with_reducible exact LeO.none _)
  | (with_reducible refine LeO.ite ?_ ?_)
  | (with_reducible refine LeO.bind ?_ (fun _ => ?_))
  | exact ih0 _ _ _
  | exact ih1 _ _ _ _ _ _
  | exact LeO.none _
  | refine LeO.ite ?_ ?_
  | refine LeO.bind ?_ (fun _ => ?_)
set_option maxHeartbeats 8000000 in
set_option maxRecDepth 100000 in
theorem impl_NeighbourSums.calls (k : Nat) (a0 : Int) (a1 : Int) (r1 : Int) (r2 : Int) (r3 : Bool) (w : World) (h : impl_NeighbourSums.f k a0 a1 = some (r1, r2, r3)) :
 Calls Try.prog 32 #[.int .i64 a0, .int .i64 a1] w fun e w' => e = .returned (.tuple #[.int .i64 r1, .int .i64 r2, .bool r3]) ∧ Below w.heap.size w w' := by
 have HB := Aside0.mk (Below.refl w.heap.size w)
 have H : ((impl_within.f a0 2 1000000).bind fun t281 => (if t281 = true then ((impl_within.f a1 1 a0).bind fun t282 => (impl_NeighbourSums.j0 k a0 a1 (!t282))) else (impl_NeighbourSums.j0 k a0 a1 true))) = some (r1, r2, r3) := h
 clear h
 have HC3 := Aside0.mk H
 clear H
 go_enter Try.func32, Try.ntmps32
 go_upto_region 1 with (fail)
 go_cut [19] (fun v19 wc => ∃ (kq : Nat) (x19_2 : Bool), v19 = .bool x19_2 ∧ Aside0 (impl_NeighbourSums.j0 kq a0 a1 x19_2 = some (r1, r2, r3)) ∧ Aside0 (kq ≤ k) ∧ Aside0 (Below w.heap.size w wc))
 case first =>
  have H := HC3.out
  clear HC3
  replace H := Option.bind_eq_some_iff.mp H
  obtain ⟨t281, A40, H⟩ := H
  have A4 := Aside0.mk A40
  clear A40
  by_cases c5 : t281 = true
  · subst c5
    have H1 : ((impl_within.f a1 1 a0).bind fun t282 => (impl_NeighbourSums.j0 k a0 a1 (!t282))) = some (r1, r2, r3) := by rw [if_pos rfl] at H; exact H
    clear H
    have H := H1
    clear H1
    replace H := Option.bind_eq_some_iff.mp H
    obtain ⟨t282, A60, H⟩ := H
    have A6 := Aside0.mk A60
    clear A60
    have H' := Aside0.mk H
    clear H
    go_wp2_with (first | ((with_reducible refine gate_callee (f := 76) rfl ?_); refine goesL_ (some 12) rfl rfl Try.func76 (by kernel_rfl) rfl #[.int .i64 a0, .int .i64 2, .int .i64 1000000] rfl z5_0_ ?_; (with_reducible refine (impl_within.calls a0 2 1000000 true _ A4.out).mono ?_); rintro e w' ⟨rfl, ⟨nd, rfl⟩⟩; refine ⟨_, rfl, ?_⟩) | (go_at_call 76; (with_reducible refine (impl_within.calls a1 1 a0 t282 _ A6.out).mono ?_); rintro e w' ⟨rfl, ⟨nd, rfl⟩⟩))
    go_meet
    case rel => exact ⟨_, (!t282), z5_1_, H', ⟨by first | omega | exact Nat.le_refl _⟩, ⟨by repeat (first | (with_reducible first | exact HB.out | apply below_alloc | apply pw_below_drewN | apply below_drew1) | exact HB.out)⟩⟩
  replace c5 := Bool.eq_false_iff.mpr c5
  subst c5
  have H1 : (impl_NeighbourSums.j0 k a0 a1 true) = some (r1, r2, r3) := by rw [if_neg (show ¬ (false = true) by decide)] at H; exact H
  clear H
  have H := H1
  clear H1
  have H' := Aside0.mk H
  clear H
  go_wp2_with (first | ((with_reducible refine gate_callee (f := 76) rfl ?_); refine goesL_ (some 12) rfl rfl Try.func76 (by kernel_rfl) rfl #[.int .i64 a0, .int .i64 2, .int .i64 1000000] rfl z5_0_ ?_; (with_reducible refine (impl_within.calls a0 2 1000000 false _ A4.out).mono ?_); rintro e w' ⟨rfl, ⟨nd, rfl⟩⟩; refine ⟨_, rfl, ?_⟩))
  go_meet
  case rel => exact ⟨_, (true), z5_1_, H', ⟨by first | omega | exact Nat.le_refl _⟩, ⟨by repeat (first | (with_reducible first | exact HB.out | apply below_alloc | apply pw_below_drewN | apply below_drew1) | exact HB.out)⟩⟩
 case rest =>
  clear HC3
  (try clear p2);(try clear c3);(try clear c5)
  obtain ⟨kq, x19_2, rfl, HA, HJ2, HB⟩ := hcut
  cases kq with
  | zero => exact absurd HA.out (by simp [impl_NeighbourSums.j0])
  | succ kj2 =>
   have H := HA.out
   clear HA
   simp only [impl_NeighbourSums.j0] at H
   by_cases c7 : x19_2 = true
   · subst c7
     have H1 : (some (0, 0, false)) = some (r1, r2, r3) := by rw [if_pos rfl] at H; exact H
     clear H
     have H := H1
     clear H1
     simp only [Option.some.injEq, Prod.mk.injEq] at H
     obtain ⟨rfl, rfl, rfl⟩ := H
     go_wp2
     go_ret3
     exact ⟨by first | rfl | (simp [errW_none, errW_some] <;> rfl) | (simp [*, errW_none, errW_some] <;> rfl), by repeat (first | (with_reducible first | exact HB.out | apply below_alloc | apply pw_below_drewN | apply below_drew1) | exact HB.out)⟩
   replace c7 := Bool.eq_false_iff.mpr c7
   subst c7
   have H1 : ((some (([wrap64 (a1 - 1), wrap64 (a1 + 1)] : List Int) : List Int)).bind fun y283 => (impl_NeighbourSums.l0 kj2 a0 0 0 y283 (y283.length : Int) 0)) = some (r1, r2, r3) := by rw [if_neg (show ¬ (false = true) by decide)] at H; exact H
   clear H
   have H := H1
   clear H1
   obtain ⟨y283, hy283⟩ : ∃ y_ : List Int, y_ = (([wrap64 (a1 - 1), wrap64 (a1 + 1)] : List Int)) := ⟨_, rfl⟩
   replace H : (impl_NeighbourSums.l0 kj2 a0 0 0 y283 (y283.length : Int) 0) = some (r1, r2, r3) := by first | (rw [hy283]; with_reducible exact H) | (have H2_ := (Option.bind_some _ _).symm.trans H; rw [hy283]; with_reducible exact H2_) | (have H2_ := (Option.bind_some _ _).symm.trans H; with_reducible exact H2_) | with_reducible exact H | (rw [hy283]; exact H) | exact H
   have Ny283 := Aside0.mk hy283
   clear hy283
   have H' := Aside0.mk H
   clear H
   go_wp2_with (first | ((with_reducible refine gate_dst (N := 24) rfl ?_); refine Kd.R_lit (Kd.int .i64) _ 3 ?hg (N := 24) ?hd (xs := ([wrap64 (a1 - 1), wrap64 (a1 + 1)] : List Int)) (inner := [.int .i64 (wrap64 (a1 - 1)), .int .i64 (wrap64 (a1 + 1))]) (ok := fun _ => True) (okp := fun _ => True) ?hr ?hp (fun _ hk => hk) trivial (Below.refl _ _) (Nat.le_refl _) (by simp) ?_; (case hd => rfl); (case hg => rfl); (case hr => first | (go_simp; done) | (go_simp; rfl)); (case hp => exact (Reps.one (show Kd.M (Kd.int .i64) _ _ _ (wrap64 (a1 - 1)) [.int .i64 (wrap64 (a1 - 1))] from rfl) (Reps.one (show Kd.M (Kd.int .i64) _ _ _ (wrap64 (a1 + 1)) [.int .i64 (wrap64 (a1 + 1))] from rfl) (Reps.none _ _)))); intro v284 w8 ho9 hb hg_ hnew_; clear hg_ hnew_; (first | rw [← Ny283.out] at ho9 | (simp only [Int.reduceToNat] at ho9; rw [← Ny283.out] at ho9)); have n0_ := Aside0.mk (Kd.R_lower ho9 (below_size z5_2_)); have n1_ := Aside0.mk (below_step z5_2_ hb); clear HB; have HO285 := n0_; have HB := n1_; clear n0_ n1_; clear hb ho9; obtain ⟨Ao10, co10, eo10⟩ := Kd.R_slice HO285.out; subst eo10))
   go_loopg [7, 8, 26] kj2 (fun kq v7 v8 v26 w' => ∃ (x7_2 : Int) (x8_2 : Int) (x26_2 : Int), v7 = .int .i64 x7_2 ∧ v8 = .int .i64 x8_2 ∧ v26 = .int .i64 x26_2 ∧ Aside0 (impl_NeighbourSums.l0 kq a0 x7_2 x8_2 y283 (y283.length : Int) x26_2 = some (r1, r2, r3)) ∧ Aside0 (kq ≤ kj2) ∧ Aside0 (Kd.R (Kd.int .i64) 3 w' w.heap.size (fun _ => True) (.slice Ao10 y283.length co10) y283) ∧ Aside0 (Below w.heap.size w w'))
   case atStart => exact ⟨(0), (0), (0), z5_1_, z5_1_, z5_1_, H', ⟨Nat.le_refl _⟩, ⟨by (with_reducible repeat (first | apply Kd.R_alloc | apply Kd.R_drewN | apply Kd.R_drew)); exact HO285.out⟩, ⟨by repeat (first | (with_reducible first | exact HB.out | apply below_alloc | apply pw_below_drewN | apply below_drew1) | exact HB.out)⟩⟩
   case round =>
    clear H'
    (try clear p2);(try clear c3);(try clear c5);(try clear p6);(try clear c7);(try clear p2)
    obtain ⟨x7_2, x8_2, x26_2, rfl, rfl, rfl, HA, HK2, HO_24, HB⟩ := hrel
    cases gk with
    | zero => exact absurd HA.out (by simp [impl_NeighbourSums.l0])
    | succ k2 =>
     have H := HA.out
     clear HA
     simp only [impl_NeighbourSums.l0] at H
     by_cases c11 : x26_2 < (y283.length : Int)
     · rw [if_pos c11] at H
       have c11b0 : decide (x26_2 < (y283.length : Int)) = true := decide_eq_true c11
       clear c11
       by_cases c12 : 0 ≤ x26_2
       rotate_left
       · exact none_ (if_neg c12) H
       rw [if_pos c12] at H
       have c12b0 : decide (0 ≤ x26_2) = true := decide_eq_true c12
       clear c12
       by_cases c13 : x26_2 < (y283.length : Int)
       rotate_left
       · exact none_ (if_neg c13) H
       rw [if_pos c13] at H
       have c13b0 : decide (x26_2 < (y283.length : Int)) = true := decide_eq_true c13
       clear c13
       replace H := Option.bind_eq_some_iff.mp H
       obtain ⟨t287, A140, H⟩ := H
       have A14 := Aside0.mk A140
       clear A140
       by_cases c15 : t287 = true
       · subst c15
         have H1 : (impl_NeighbourSums.l0 k2 a0 (wrap64 (x7_2 + (rd y283 x26_2))) (wrap64 (x8_2 + 1)) y283 (y283.length : Int) (wrap64 (x26_2 + 1))) = some (r1, r2, r3) := by rw [if_pos rfl] at H; exact H
         clear H
         have H := H1
         clear H1
         have H' := Aside0.mk H
         clear H
         have p286 : 0 ≤ (x26_2 : Int) := of_decide_eq_true z5_3_
         have q286 : x26_2 < (y283.length : Int) := of_decide_eq_true z5_3_
         obtain ⟨ad286, e286, hx286_0⟩ := Kd.at_int (Kd.R_reads' HO_24.out).2.2 x26_2 p286 q286
         cases e286
         replace p286 := eq_true p286
         replace q286 := eq_true q286
         go_wp2_with (first | ((with_reducible refine gate_callee (f := 76) rfl ?_); refine goesL_ (some 32) rfl rfl Try.func76 (by kernel_rfl) rfl #[.int .i64 (rd y283 x26_2), .int .i64 1, .int .i64 a0] rfl z5_0_ ?_; (with_reducible refine (impl_within.calls (rd y283 x26_2) 1 a0 true _ A14.out).mono ?_); rintro e w' ⟨rfl, ⟨nd, rfl⟩⟩; refine ⟨_, rfl, ?_⟩))
         go_roundg k2
         case measure => have := HJ2.out; have := HK2.out; omega
         case rel => exact ⟨(wrap64 (x7_2 + (rd y283 x26_2))), (wrap64 (x8_2 + 1)), (wrap64 (x26_2 + 1)), z5_1_, z5_1_, z5_1_, H', ⟨by have := HJ2.out; have := HK2.out; omega⟩, ⟨by (with_reducible repeat (first | apply Kd.R_alloc | apply Kd.R_drewN | apply Kd.R_drew)); exact HO_24.out⟩, ⟨by repeat (first | (with_reducible first | exact HB.out | apply below_alloc | apply pw_below_drewN | apply below_drew1) | exact HB.out)⟩⟩
       replace c15 := Bool.eq_false_iff.mpr c15
       subst c15
       have H1 : (impl_NeighbourSums.l0 k2 a0 x7_2 x8_2 y283 (y283.length : Int) (wrap64 (x26_2 + 1))) = some (r1, r2, r3) := by rw [if_neg (show ¬ (false = true) by decide)] at H; exact H
       clear H
       have H := H1
       clear H1
       have H' := Aside0.mk H
       clear H
       have p286 : 0 ≤ (x26_2 : Int) := of_decide_eq_true z5_3_
       have q286 : x26_2 < (y283.length : Int) := of_decide_eq_true z5_3_
       obtain ⟨ad286, e286, hx286_0⟩ := Kd.at_int (Kd.R_reads' HO_24.out).2.2 x26_2 p286 q286
       cases e286
       replace p286 := eq_true p286
       replace q286 := eq_true q286
       go_wp2_with (first | ((with_reducible refine gate_callee (f := 76) rfl ?_); refine goesL_ (some 32) rfl rfl Try.func76 (by kernel_rfl) rfl #[.int .i64 (rd y283 x26_2), .int .i64 1, .int .i64 a0] rfl z5_0_ ?_; (with_reducible refine (impl_within.calls (rd y283 x26_2) 1 a0 false _ A14.out).mono ?_); rintro e w' ⟨rfl, ⟨nd, rfl⟩⟩; refine ⟨_, rfl, ?_⟩))
       go_roundg k2
       case measure => have := HJ2.out; have := HK2.out; omega
       case rel => exact ⟨(x7_2), (x8_2), (wrap64 (x26_2 + 1)), z5_1_, z5_1_, z5_1_, H', ⟨by have := HJ2.out; have := HK2.out; omega⟩, ⟨by (with_reducible repeat (first | apply Kd.R_alloc | apply Kd.R_drewN | apply Kd.R_drew)); exact HO_24.out⟩, ⟨by repeat (first | (with_reducible first | exact HB.out | apply below_alloc | apply pw_below_drewN | apply below_drew1) | exact HB.out)⟩⟩
     rw [if_neg c11] at H
     have c11b0 : decide (x26_2 < (y283.length : Int)) = false := decide_eq_false c11
     clear c11
     simp only [Option.some.injEq, Prod.mk.injEq] at H
     obtain ⟨rfl, rfl, rfl⟩ := H
     go_wp2
     go_ret3
     exact ⟨by first | rfl | (simp [errW_none, errW_some] <;> rfl) | (simp [*, errW_none, errW_some] <;> rfl), by repeat (first | (with_reducible first | exact HB.out | apply below_alloc | apply pw_below_drewN | apply below_drew1) | exact HB.out)⟩

/-! ### spec_NeighbourSums: function 33 -/
mutual
def spec_NeighbourSums.j0 : Nat → Int → Int → Bool → Option (Int × Int × Bool)
 | 0, _, _, _ => none
 | k + 1, x0, x1, x23 => if x23 = true then (some (0, 0, false)) else ((some (([wrap64 (x1 - 1), wrap64 (x1 + 1)] : List Int) : List Int)).bind fun y290 => (spec_NeighbourSums.l0 k x0 0 0 y290 (y290.length : Int) 0))
def spec_NeighbourSums.l0 : Nat → Int → Int → Int → List Int → Int → Int → Option (Int × Int × Bool)
 | 0, _, _, _, _, _, _ => none
 | k + 1, x0, x7, x8, x28, x29, x30 => if x30 < x29 then (if 0 ≤ x30 then (if x30 < (x28.length : Int) then ((spec_l1In.f (rd x28 x30) 1 x0).bind fun t294 => (if t294 = true then (spec_NeighbourSums.l0 k x0 (wrap64 (x7 + (rd x28 x30))) (wrap64 (x8 + 1)) x28 x29 (wrap64 (x30 + 1))) else (spec_NeighbourSums.l0 k x0 x7 x8 x28 x29 (wrap64 (x30 + 1))))) else (none)) else (none)) else (some (x7, x8, true))
end
def spec_NeighbourSums.f (k : Nat) (a0 : Int) (a1 : Int) : Option (Int × Int × Bool) := (spec_hoMost.f a0).bind fun t288 => (if t288 = true then (if a0 = 1 then (spec_NeighbourSums.j0 k a0 a1 true) else ((spec_l1In.f a1 1 a0).bind fun t289 => (spec_NeighbourSums.j0 k a0 a1 (!t289)))) else (spec_NeighbourSums.j0 k a0 a1 true))
theorem spec_NeighbourSums.mono_l : ∀ k, (∀ y0 y1 y2, LeO (spec_NeighbourSums.j0 k y0 y1 y2) (spec_NeighbourSums.j0 (k + 1) y0 y1 y2)) ∧ (∀ y0 y1 y2 y3 y4 y5, LeO (spec_NeighbourSums.l0 k y0 y1 y2 y3 y4 y5) (spec_NeighbourSums.l0 (k + 1) y0 y1 y2 y3 y4 y5))
 | 0 => ⟨fun _ _ _ r h => by simp [spec_NeighbourSums.j0] at h, fun _ _ _ _ _ _ r h => by simp [spec_NeighbourSums.l0] at h⟩
 | k + 1 => by
  obtain ⟨ih0, ih1⟩ := spec_NeighbourSums.mono_l k
  refine ⟨?_, ?_⟩
  · intro y0 y1 y2
    unfold spec_NeighbourSums.j0
    repeat' first
    | (with_reducible exact ih0 _ _ _)
    | (with_reducible exact ih1 _ _ _ _ _ _)
    | (with_reducible exact LeO.refl _)
    | (with_reducible exact LeO.none _)
    | (with_reducible refine LeO.ite ?_ ?_)
    | (with_reducible refine LeO.bind ?_ (fun _ => ?_))
    | exact ih0 _ _ _
    | exact ih1 _ _ _ _ _ _
    | exact LeO.none _
    | refine LeO.ite ?_ ?_
    | refine LeO.bind ?_ (fun _ => ?_)
  intro y0 y1 y2 y3 y4 y5
  unfold spec_NeighbourSums.l0
  repeat' first
  | (with_reducible exact ih0 _ _ _)
  | (with_reducible exact ih1 _ _ _ _ _ _)
  | (with_reducible exact LeO.refl _)
  | (with_reducible exact LeO.none _)
  | (with_reducible refine LeO.ite ?_ ?_)
  | (with_reducible refine LeO.bind ?_ (fun _ => ?_))
  | exact ih0 _ _ _
  | exact ih1 _ _ _ _ _ _
  | exact LeO.none _
  | refine LeO.ite ?_ ?_
  | refine LeO.bind ?_ (fun _ => ?_)
theorem spec_NeighbourSums.mono : ∀ a0 a1 k, LeO (spec_NeighbourSums.f k a0 a1) (spec_NeighbourSums.f (k + 1) a0 a1) := by
 intro a0 a1 k
 obtain ⟨ih0, ih1⟩ := spec_NeighbourSums.mono_l k
 unfold spec_NeighbourSums.f
 repeat' first
  | (with_reducible exact ih0 _ _ _)
  | (with_reducible exact ih1 _ _ _ _ _ _)
  | (with_reducible exact LeO.refl _)
  | (with_reducible exact LeO.none _)
  | (with_reducible refine LeO.ite ?_ ?_)
  | (with_reducible refine LeO.bind ?_ (fun _ => ?_))
  | exact ih0 _ _ _
  | exact ih1 _ _ _ _ _ _
  | exact LeO.none _
  | refine LeO.ite ?_ ?_
  | refine LeO.bind ?_ (fun _ => ?_)
set_option maxHeartbeats 8000000 in
set_option maxRecDepth 100000 in
theorem spec_NeighbourSums.calls (k : Nat) (a0 : Int) (a1 : Int) (r1 : Int) (r2 : Int) (r3 : Bool) (w : World) (h : spec_NeighbourSums.f k a0 a1 = some (r1, r2, r3)) :
 Calls Try.prog 33 #[.int .i64 a0, .int .i64 a1] w fun e w' => e = .returned (.tuple #[.int .i64 r1, .int .i64 r2, .bool r3]) ∧ Below w.heap.size w w' := by
 have HB := Aside0.mk (Below.refl w.heap.size w)
 have H : ((spec_hoMost.f a0).bind fun t288 => (if t288 = true then (if a0 = 1 then (spec_NeighbourSums.j0 k a0 a1 true) else ((spec_l1In.f a1 1 a0).bind fun t289 => (spec_NeighbourSums.j0 k a0 a1 (!t289)))) else (spec_NeighbourSums.j0 k a0 a1 true))) = some (r1, r2, r3) := h
 clear h
 have HC3 := Aside0.mk H
 clear H
 go_enter Try.func33, Try.ntmps33
 go_upto_region 1 with (fail)
 go_cut [23] (fun v23 wc => ∃ (kq : Nat) (x23_2 : Bool), v23 = .bool x23_2 ∧ Aside0 (spec_NeighbourSums.j0 kq a0 a1 x23_2 = some (r1, r2, r3)) ∧ Aside0 (kq ≤ k) ∧ Aside0 (Below w.heap.size w wc))
 case first =>
  have H := HC3.out
  clear HC3
  replace H := Option.bind_eq_some_iff.mp H
  obtain ⟨t288, A40, H⟩ := H
  have A4 := Aside0.mk A40
  clear A40
  by_cases c5 : t288 = true
  · subst c5
    have H1 : (if a0 = 1 then (spec_NeighbourSums.j0 k a0 a1 true) else ((spec_l1In.f a1 1 a0).bind fun t289 => (spec_NeighbourSums.j0 k a0 a1 (!t289)))) = some (r1, r2, r3) := by rw [if_pos rfl] at H; exact H
    clear H
    have H := H1
    clear H1
    by_cases c6 : a0 = 1
    · rw [if_pos c6] at H
      have c6b0 : (a0 == 1) = true := beq_iff_eq.mpr c6
      have c6b1 : (a0 != 1) = false := bne_eq_false_iff_eq.mpr c6
      clear c6
      (first | rw [c6b0] | (simp only [i64_w, i32_w]; rw [c6b0]) | skip)
      have H' := Aside0.mk H
      clear H
      go_wp2_with (first | ((with_reducible refine gate_callee (f := 73) rfl ?_); refine goesL_ (some 12) rfl rfl Try.func73 (by kernel_rfl) rfl #[.int .i64 a0] rfl z5_0_ ?_; (with_reducible refine (spec_hoMost.calls a0 true _ A4.out).mono ?_); rintro e w' ⟨rfl, ⟨nd, rfl⟩⟩; refine ⟨_, rfl, ?_⟩))
      go_meet
      case rel => exact ⟨_, (true), z5_1_, H', ⟨by first | omega | exact Nat.le_refl _⟩, ⟨by repeat (first | (with_reducible first | exact HB.out | apply below_alloc | apply pw_below_drewN | apply below_drew1) | exact HB.out)⟩⟩
    rw [if_neg c6] at H
    have c6b0 : (a0 == 1) = false := beq_eq_false_iff_ne.mpr c6
    have c6b1 : (a0 != 1) = true := bne_iff_ne.mpr c6
    (first | rw [c6b0] | (simp only [i64_w, i32_w]; rw [c6b0]) | skip)
    replace H := Option.bind_eq_some_iff.mp H
    obtain ⟨t289, A70, H⟩ := H
    have A7 := Aside0.mk A70
    clear A70
    have H' := Aside0.mk H
    clear H
    go_wp2_with (first | ((with_reducible refine gate_callee (f := 73) rfl ?_); refine goesL_ (some 12) rfl rfl Try.func73 (by kernel_rfl) rfl #[.int .i64 a0] rfl z5_0_ ?_; (with_reducible refine (spec_hoMost.calls a0 true _ A4.out).mono ?_); rintro e w' ⟨rfl, ⟨nd, rfl⟩⟩; refine ⟨_, rfl, ?_⟩) | (go_at_call 66; (with_reducible refine (spec_l1In.calls a1 1 a0 t289 _ A7.out).mono ?_); rintro e w' ⟨rfl, ⟨nd, rfl⟩⟩))
    go_meet
    case rel => exact ⟨_, (!t289), z5_1_, H', ⟨by first | omega | exact Nat.le_refl _⟩, ⟨by repeat (first | (with_reducible first | exact HB.out | apply below_alloc | apply pw_below_drewN | apply below_drew1) | exact HB.out)⟩⟩
  replace c5 := Bool.eq_false_iff.mpr c5
  subst c5
  have H1 : (spec_NeighbourSums.j0 k a0 a1 true) = some (r1, r2, r3) := by rw [if_neg (show ¬ (false = true) by decide)] at H; exact H
  clear H
  have H := H1
  clear H1
  have H' := Aside0.mk H
  clear H
  go_wp2_with (first | ((with_reducible refine gate_callee (f := 73) rfl ?_); refine goesL_ (some 12) rfl rfl Try.func73 (by kernel_rfl) rfl #[.int .i64 a0] rfl z5_0_ ?_; (with_reducible refine (spec_hoMost.calls a0 false _ A4.out).mono ?_); rintro e w' ⟨rfl, ⟨nd, rfl⟩⟩; refine ⟨_, rfl, ?_⟩))
  go_meet
  case rel => exact ⟨_, (true), z5_1_, H', ⟨by first | omega | exact Nat.le_refl _⟩, ⟨by repeat (first | (with_reducible first | exact HB.out | apply below_alloc | apply pw_below_drewN | apply below_drew1) | exact HB.out)⟩⟩
 case rest =>
  clear HC3
  (try clear p2);(try clear c3);(try clear c5);(try clear c6);(try clear c6b0);(try clear c6b1);(try clear c7)
  obtain ⟨kq, x23_2, rfl, HA, HJ2, HB⟩ := hcut
  cases kq with
  | zero => exact absurd HA.out (by simp [spec_NeighbourSums.j0])
  | succ kj2 =>
   have H := HA.out
   clear HA
   simp only [spec_NeighbourSums.j0] at H
   by_cases c8 : x23_2 = true
   · subst c8
     have H1 : (some (0, 0, false)) = some (r1, r2, r3) := by rw [if_pos rfl] at H; exact H
     clear H
     have H := H1
     clear H1
     simp only [Option.some.injEq, Prod.mk.injEq] at H
     obtain ⟨rfl, rfl, rfl⟩ := H
     go_wp2
     go_ret3
     exact ⟨by first | rfl | (simp [errW_none, errW_some] <;> rfl) | (simp [*, errW_none, errW_some] <;> rfl), by repeat (first | (with_reducible first | exact HB.out | apply below_alloc | apply pw_below_drewN | apply below_drew1) | exact HB.out)⟩
   replace c8 := Bool.eq_false_iff.mpr c8
   subst c8
   have H1 : ((some (([wrap64 (a1 - 1), wrap64 (a1 + 1)] : List Int) : List Int)).bind fun y290 => (spec_NeighbourSums.l0 kj2 a0 0 0 y290 (y290.length : Int) 0)) = some (r1, r2, r3) := by rw [if_neg (show ¬ (false = true) by decide)] at H; exact H
   clear H
   have H := H1
   clear H1
   obtain ⟨y290, hy290⟩ : ∃ y_ : List Int, y_ = (([wrap64 (a1 - 1), wrap64 (a1 + 1)] : List Int)) := ⟨_, rfl⟩
   replace H : (spec_NeighbourSums.l0 kj2 a0 0 0 y290 (y290.length : Int) 0) = some (r1, r2, r3) := by first | (rw [hy290]; with_reducible exact H) | (have H2_ := (Option.bind_some _ _).symm.trans H; rw [hy290]; with_reducible exact H2_) | (have H2_ := (Option.bind_some _ _).symm.trans H; with_reducible exact H2_) | with_reducible exact H | (rw [hy290]; exact H) | exact H
   have Ny290 := Aside0.mk hy290
   clear hy290
   have H' := Aside0.mk H
   clear H
   go_wp2_with (first | ((with_reducible refine gate_dst (N := 28) rfl ?_); refine Kd.R_lit (Kd.int .i64) _ 3 ?hg (N := 28) ?hd (xs := ([wrap64 (a1 - 1), wrap64 (a1 + 1)] : List Int)) (inner := [.int .i64 (wrap64 (a1 - 1)), .int .i64 (wrap64 (a1 + 1))]) (ok := fun _ => True) (okp := fun _ => True) ?hr ?hp (fun _ hk => hk) trivial (Below.refl _ _) (Nat.le_refl _) (by simp) ?_; (case hd => rfl); (case hg => rfl); (case hr => first | (go_simp; done) | (go_simp; rfl)); (case hp => exact (Reps.one (show Kd.M (Kd.int .i64) _ _ _ (wrap64 (a1 - 1)) [.int .i64 (wrap64 (a1 - 1))] from rfl) (Reps.one (show Kd.M (Kd.int .i64) _ _ _ (wrap64 (a1 + 1)) [.int .i64 (wrap64 (a1 + 1))] from rfl) (Reps.none _ _)))); intro v291 w9 ho10 hb hg_ hnew_; clear hg_ hnew_; (first | rw [← Ny290.out] at ho10 | (simp only [Int.reduceToNat] at ho10; rw [← Ny290.out] at ho10)); have n0_ := Aside0.mk (Kd.R_lower ho10 (below_size z5_2_)); have n1_ := Aside0.mk (below_step z5_2_ hb); clear HB; have HO292 := n0_; have HB := n1_; clear n0_ n1_; clear hb ho10; obtain ⟨Ao11, co11, eo11⟩ := Kd.R_slice HO292.out; subst eo11))
   go_loopg [7, 8, 30] kj2 (fun kq v7 v8 v30 w' => ∃ (x7_2 : Int) (x8_2 : Int) (x30_2 : Int), v7 = .int .i64 x7_2 ∧ v8 = .int .i64 x8_2 ∧ v30 = .int .i64 x30_2 ∧ Aside0 (spec_NeighbourSums.l0 kq a0 x7_2 x8_2 y290 (y290.length : Int) x30_2 = some (r1, r2, r3)) ∧ Aside0 (kq ≤ kj2) ∧ Aside0 (Kd.R (Kd.int .i64) 3 w' w.heap.size (fun _ => True) (.slice Ao11 y290.length co11) y290) ∧ Aside0 (Below w.heap.size w w'))
   case atStart => exact ⟨(0), (0), (0), z5_1_, z5_1_, z5_1_, H', ⟨Nat.le_refl _⟩, ⟨by (with_reducible repeat (first | apply Kd.R_alloc | apply Kd.R_drewN | apply Kd.R_drew)); exact HO292.out⟩, ⟨by repeat (first | (with_reducible first | exact HB.out | apply below_alloc | apply pw_below_drewN | apply below_drew1) | exact HB.out)⟩⟩
   case round =>
    clear H'
    (try clear p2);(try clear c3);(try clear c5);(try clear c6);(try clear c6b0);(try clear c6b1);(try clear p6);(try clear c7);(try clear c8);(try clear p2)
    obtain ⟨x7_2, x8_2, x30_2, rfl, rfl, rfl, HA, HK2, HO_28, HB⟩ := hrel
    cases gk with
    | zero => exact absurd HA.out (by simp [spec_NeighbourSums.l0])
    | succ k2 =>
     have H := HA.out
     clear HA
     simp only [spec_NeighbourSums.l0] at H
     by_cases c12 : x30_2 < (y290.length : Int)
     · rw [if_pos c12] at H
       have c12b0 : decide (x30_2 < (y290.length : Int)) = true := decide_eq_true c12
       clear c12
       by_cases c13 : 0 ≤ x30_2
       rotate_left
       · exact none_ (if_neg c13) H
       rw [if_pos c13] at H
       have c13b0 : decide (0 ≤ x30_2) = true := decide_eq_true c13
       clear c13
       by_cases c14 : x30_2 < (y290.length : Int)
       rotate_left
       · exact none_ (if_neg c14) H
       rw [if_pos c14] at H
       have c14b0 : decide (x30_2 < (y290.length : Int)) = true := decide_eq_true c14
       clear c14
       replace H := Option.bind_eq_some_iff.mp H
       obtain ⟨t294, A150, H⟩ := H
       have A15 := Aside0.mk A150
       clear A150
       by_cases c16 : t294 = true
       · subst c16
         have H1 : (spec_NeighbourSums.l0 k2 a0 (wrap64 (x7_2 + (rd y290 x30_2))) (wrap64 (x8_2 + 1)) y290 (y290.length : Int) (wrap64 (x30_2 + 1))) = some (r1, r2, r3) := by rw [if_pos rfl] at H; exact H
         clear H
         have H := H1
         clear H1
         have H' := Aside0.mk H
         clear H
         have p293 : 0 ≤ (x30_2 : Int) := of_decide_eq_true z5_3_
         have q293 : x30_2 < (y290.length : Int) := of_decide_eq_true z5_3_
         obtain ⟨ad293, e293, hx293_0⟩ := Kd.at_int (Kd.R_reads' HO_28.out).2.2 x30_2 p293 q293
         cases e293
         replace p293 := eq_true p293
         replace q293 := eq_true q293
         go_wp2_with (first | ((with_reducible refine gate_callee (f := 66) rfl ?_); refine goesL_ (some 36) rfl rfl Try.func66 (by kernel_rfl) rfl #[.int .i64 (rd y290 x30_2), .int .i64 1, .int .i64 a0] rfl z5_0_ ?_; (with_reducible refine (spec_l1In.calls (rd y290 x30_2) 1 a0 true _ A15.out).mono ?_); rintro e w' ⟨rfl, ⟨nd, rfl⟩⟩; refine ⟨_, rfl, ?_⟩))
         go_roundg k2
         case measure => have := HJ2.out; have := HK2.out; omega
         case rel => exact ⟨(wrap64 (x7_2 + (rd y290 x30_2))), (wrap64 (x8_2 + 1)), (wrap64 (x30_2 + 1)), z5_1_, z5_1_, z5_1_, H', ⟨by have := HJ2.out; have := HK2.out; omega⟩, ⟨by (with_reducible repeat (first | apply Kd.R_alloc | apply Kd.R_drewN | apply Kd.R_drew)); exact HO_28.out⟩, ⟨by repeat (first | (with_reducible first | exact HB.out | apply below_alloc | apply pw_below_drewN | apply below_drew1) | exact HB.out)⟩⟩
       replace c16 := Bool.eq_false_iff.mpr c16
       subst c16
       have H1 : (spec_NeighbourSums.l0 k2 a0 x7_2 x8_2 y290 (y290.length : Int) (wrap64 (x30_2 + 1))) = some (r1, r2, r3) := by rw [if_neg (show ¬ (false = true) by decide)] at H; exact H
       clear H
       have H := H1
       clear H1
       have H' := Aside0.mk H
       clear H
       have p293 : 0 ≤ (x30_2 : Int) := of_decide_eq_true z5_3_
       have q293 : x30_2 < (y290.length : Int) := of_decide_eq_true z5_3_
       obtain ⟨ad293, e293, hx293_0⟩ := Kd.at_int (Kd.R_reads' HO_28.out).2.2 x30_2 p293 q293
       cases e293
       replace p293 := eq_true p293
       replace q293 := eq_true q293
       go_wp2_with (first | ((with_reducible refine gate_callee (f := 66) rfl ?_); refine goesL_ (some 36) rfl rfl Try.func66 (by kernel_rfl) rfl #[.int .i64 (rd y290 x30_2), .int .i64 1, .int .i64 a0] rfl z5_0_ ?_; (with_reducible refine (spec_l1In.calls (rd y290 x30_2) 1 a0 false _ A15.out).mono ?_); rintro e w' ⟨rfl, ⟨nd, rfl⟩⟩; refine ⟨_, rfl, ?_⟩))
       go_roundg k2
       case measure => have := HJ2.out; have := HK2.out; omega
       case rel => exact ⟨(x7_2), (x8_2), (wrap64 (x30_2 + 1)), z5_1_, z5_1_, z5_1_, H', ⟨by have := HJ2.out; have := HK2.out; omega⟩, ⟨by (with_reducible repeat (first | apply Kd.R_alloc | apply Kd.R_drewN | apply Kd.R_drew)); exact HO_28.out⟩, ⟨by repeat (first | (with_reducible first | exact HB.out | apply below_alloc | apply pw_below_drewN | apply below_drew1) | exact HB.out)⟩⟩
     rw [if_neg c12] at H
     have c12b0 : decide (x30_2 < (y290.length : Int)) = false := decide_eq_false c12
     clear c12
     simp only [Option.some.injEq, Prod.mk.injEq] at H
     obtain ⟨rfl, rfl, rfl⟩ := H
     go_wp2
     go_ret3
     exact ⟨by first | rfl | (simp [errW_none, errW_some] <;> rfl) | (simp [*, errW_none, errW_some] <;> rfl), by repeat (first | (with_reducible first | exact HB.out | apply below_alloc | apply pw_below_drewN | apply below_drew1) | exact HB.out)⟩

end Go.Proofs.Ytjhmocngcnnfdaa.PFnHousesRun

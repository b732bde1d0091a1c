-- Laid by this session's program gprint.py over the kit's print.
import Derived.Test.YtjhmocngcnnfdaaDoorPFnExactGreatestSameDigitsx0
namespace Go.Proofs.YtjhmocngcnnfdaaDoor.PFnExactGreatestSameDigits
open Go.RowKit Go.Proofs.YtjhmocngcnnfdaaDoorW.PrintWords Go.Proofs.YtjhmocngcnnfdaaDoorW.PrintLast Go.Proofs.YtjhmocngcnnfdaaDoorW.PrintMore
attribute [local go_sem] max2_int min2_int max_two min_two max_three min_three max_four min_four   -- for this text's walks alone
set_option linter.unusedVariables false
set_option linter.unusedSimpArgs false
theorem z1_0_ {p : Prop} (h : p := by repeat (first | (with_reducible first | exact HB.out | apply below_alloc | apply pw_below_drewN | apply below_drew1) | exact HB.out)) : p := h
theorem z1_1_ {p : Prop} (h : p := by (try simp only [List.map_toArray, List.map_cons, List.map_nil]); first | done | rfl | (simp only [List.length_drop, List.length_take]; rfl)) : p := h
theorem z1_2_ {p : Prop} (h : p := by first | rfl | (simp; done) | (simp [*]; done)) : p := h
theorem z1_3_ {p : Prop} (h : p := by (with_reducible repeat (first | apply Kd.R_alloc | apply Kd.R_drewN | apply Kd.R_drew)); exact HO_3.out) : p := h
theorem z1_4_ {p : Prop} (h : p := by first | (with_reducible assumption) | assumption) : p := h

/-! ### spec_l1In: function 90 -/
def spec_l1In.f (a0 : Int) (a1 : Int) (a2 : Int) : Option (Bool) := if a0 ≥ a1 then (some (decide (a0 ≤ a2))) else (some false)
set_option maxHeartbeats 8000000 in
set_option maxRecDepth 100000 in
theorem spec_l1In.calls (a0 : Int) (a1 : Int) (a2 : Int) (r : Bool) (w : World) (h : spec_l1In.f a0 a1 a2 = some r) :
 Calls Tryd.prog 90 #[.int .i64 a0, .int .i64 a1, .int .i64 a2] w fun e w' => e = .returned (.bool r) ∧ Drawn0 w w' := by
 have H : (if a0 ≥ a1 then (some (decide (a0 ≤ a2))) else (some false)) = some r := h
 clear h
 by_cases c4 : a0 ≥ a1
 · rw [if_pos c4] at H
   have c4b0 : decide (a1 ≤ a0) = true := decide_eq_true c4
   clear c4
   obtain rfl := Option.some.inj H
   go_enter Tryd.func90, Tryd.ntmps90
   go_wp2
   go_ret
   exact ⟨by first | rfl | (simp; done) | (simp [*]; done), by repeat (first | exact Drawn0.refl _ | apply Drawn0.step)⟩
 rw [if_neg c4] at H
 have c4b0 : decide (a1 ≤ a0) = false := decide_eq_false c4
 clear c4
 obtain rfl := Option.some.inj H
 go_enter Tryd.func90, Tryd.ntmps90
 go_wp2
 go_ret
 exact ⟨by first | rfl | (simp; done) | (simp [*]; done), by repeat (first | exact Drawn0.refl _ | apply Drawn0.step)⟩

/-! ### spec_leNumber: function 66 -/
def spec_leNumber.f (a0 : Int) : Option (Bool) := (spec_l1In.f a0 0 1000000000000).bind fun t101 => (some t101)
set_option maxHeartbeats 8000000 in
set_option maxRecDepth 100000 in
theorem spec_leNumber.calls (a0 : Int) (r : Bool) (w : World) (h : spec_leNumber.f a0 = some r) :
 Calls Tryd.prog 66 #[.int .i64 a0] w fun e w' => e = .returned (.bool r) ∧ Drawn0 w w' := by
 have H : ((spec_l1In.f a0 0 1000000000000).bind fun t101 => (some t101)) = some r := h
 clear h
 replace H := Option.bind_eq_some_iff.mp H
 obtain ⟨t101, A20, H⟩ := H
 have A2 := Aside0.mk A20
 clear A20
 obtain rfl := Option.some.inj H
 go_enter Tryd.func66, Tryd.ntmps66
 go_wp2_with (first | ((with_reducible refine gate_callee (f := 90) rfl ?_); refine goesL_ (some 4) rfl rfl Tryd.func90 (by kernel_rfl) rfl #[.int .i64 a0, .int .i64 0, .int .i64 1000000000000] rfl z1_1_ ?_; (with_reducible refine (spec_l1In.calls a0 0 1000000000000 t101 _ A2.out).mono ?_); rintro e w' ⟨rfl, ⟨nd, rfl⟩⟩; refine ⟨_, rfl, ?_⟩))
 go_ret
 exact ⟨by first | rfl | (simp; done) | (simp [*]; done), by repeat (first | exact Drawn0.refl _ | apply Drawn0.step)⟩

/-! ### spec_leList: function 146 -/
def spec_leList.l0 : Nat → Int → List Int → Option (List Int)
 | 0, _, _ => none
 | k + 1, x0, x3 => if x0 > 0 then ((some (([Int.tmod x0 10] : List Int) : List Int)).bind fun y105 => (if y105.length + x3.length < 17592186044416 then (spec_leList.l0 k (wrap64 (Int.tdiv x0 10)) (y105 ++ x3)) else (none))) else (some x3)
def spec_leList.f (k : Nat) (a0 : Int) : Option (List Int) := spec_leList.l0 k (wrap64 (Int.tdiv a0 10)) (([Int.tmod a0 10] : List Int))
theorem spec_leList.mono_l : ∀ k, (∀ y0 y1, LeO (spec_leList.l0 k y0 y1) (spec_leList.l0 (k + 1) y0 y1))
 | 0 => fun _ _ r h => by simp [spec_leList.l0] at h
 | k + 1 => by
  have ih0 := spec_leList.mono_l k
  intro y0 y1
  unfold spec_leList.l0
  repeat' first
  | (with_reducible exact ih0 _ _)
  | (with_reducible exact LeO.refl _)
  | (with_reducible exact LeO.none _)
  | (with_reducible refine LeO.ite ?_ ?_)
  | (with_reducible refine LeO.bind ?_ (fun _ => ?_))
  | exact ih0 _ _
  | exact LeO.none _
  | refine LeO.ite ?_ ?_
  | refine LeO.bind ?_ (fun _ => ?_)
theorem spec_leList.mono : ∀ a0 k, LeO (spec_leList.f k a0) (spec_leList.f (k + 1) a0) := by
 intro a0 k
 have ih0 := spec_leList.mono_l k
 unfold spec_leList.f
 repeat' first
  | (with_reducible exact ih0 _ _)
  | (with_reducible exact LeO.refl _)
  | (with_reducible exact LeO.none _)
  | (with_reducible refine LeO.ite ?_ ?_)
  | (with_reducible refine LeO.bind ?_ (fun _ => ?_))
  | exact ih0 _ _
  | exact LeO.none _
  | refine LeO.ite ?_ ?_
  | refine LeO.bind ?_ (fun _ => ?_)
set_option maxHeartbeats 8000000 in
set_option maxRecDepth 100000 in
theorem spec_leList.calls (k : Nat) (a0 : Int) (r : List Int) (w : World) (h : spec_leList.f k a0 = some r) :
 Calls Tryd.prog 146 #[.int .i64 a0] w fun e w' => ∃ v0_ : Value, e = .returned (v0_) ∧ Kd.R (Kd.int .i64) 3 w' w.heap.size (fun _ => True) v0_ r ∧ Below w.heap.size w w' := by
 have HB := Aside0.mk (Below.refl w.heap.size w)
 have H : (spec_leList.l0 k (wrap64 (Int.tdiv a0 10)) (([Int.tmod a0 10] : List Int))) = some r := h
 clear h
 obtain ⟨y102, hy102⟩ : ∃ y_ : List Int, y_ = (([Int.tmod a0 10] : List Int)) := ⟨_, rfl⟩
 replace H : (spec_leList.l0 k (wrap64 (Int.tdiv a0 10)) y102) = some r := by first | (rw [hy102]; with_reducible exact H) | (have H2_ := (Option.bind_some _ _).symm.trans H; rw [hy102]; with_reducible exact H2_) | (have H2_ := (Option.bind_some _ _).symm.trans H; with_reducible exact H2_) | with_reducible exact H | (rw [hy102]; exact H) | exact H
 have Ny102 := Aside0.mk hy102
 clear hy102
 have H' := Aside0.mk H
 clear H
 go_enter Tryd.func146, Tryd.ntmps146
 go_wp2_with (first | ((with_reducible refine gate_dst (N := 6) rfl ?_); refine Kd.R_lit (Kd.int .i64) _ 3 ?hg (N := 6) ?hd (xs := ([Int.tmod a0 10] : List Int)) (inner := [.int .i64 (Int.tmod a0 10)]) (ok := fun _ => True) (okp := fun _ => True) ?hr ?hp (fun _ hk => hk) trivial (Below.refl _ _) (Nat.le_refl _) (by simp) ?_; (case hd => rfl); (case hg => rfl); (case hr => first | (go_simp; done) | (go_simp; rfl)); (case hp => exact (Reps.one (show Kd.M (Kd.int .i64) _ _ _ (Int.tmod a0 10) [.int .i64 (Int.tmod a0 10)] from rfl) (Reps.none _ _))); intro v103 w2 ho3 hb hg_ hnew_; clear hg_ hnew_; (first | rw [← Ny102.out] at ho3 | (simp only [Int.reduceToNat] at ho3; rw [← Ny102.out] at ho3)); have n0_ := Aside0.mk (Kd.R_lower ho3 (below_size z1_0_)); have n1_ := Aside0.mk (below_step z1_0_ hb); clear HB; have HO104 := n0_; have HB := n1_; clear n0_ n1_; clear hb ho3))
 go_loopg [0, 3] k (fun kq v0 v3 w' => ∃ (x0_1 : Int) (x3_1 : List Int), v0 = .int .i64 x0_1 ∧ Aside0 (spec_leList.l0 kq x0_1 x3_1 = some r) ∧ Aside0 (kq ≤ k) ∧ Aside0 (Kd.R (Kd.int .i64) 3 w' w.heap.size (fun _ => True) v3 x3_1) ∧ Aside0 (Below w.heap.size w w'))
 case atStart => exact ⟨(wrap64 (Int.tdiv a0 10)), (y102), z1_2_, H', ⟨Nat.le_refl _⟩, ⟨by (with_reducible repeat (first | apply Kd.R_alloc | apply Kd.R_drewN | apply Kd.R_drew)); exact HO104.out⟩, ⟨by repeat (first | (with_reducible first | exact HB.out | apply below_alloc | apply pw_below_drewN | apply below_drew1) | exact HB.out)⟩⟩
 case round =>
  clear H'
  (try clear c1);(try clear p2)
  obtain ⟨x0_1, x3_1, rfl, HA, HK1, HO_3, HB⟩ := hrel
  cases gk with
  | zero => exact absurd HA.out (by simp [spec_leList.l0])
  | succ k1 =>
   have H := HA.out
   clear HA
   simp only [spec_leList.l0] at H
   by_cases c4 : x0_1 > 0
   · rw [if_pos c4] at H
     have c4b0 : decide (0 < x0_1) = true := decide_eq_true c4
     clear c4
     obtain ⟨y105, hy105⟩ : ∃ y_ : List Int, y_ = (([Int.tmod x0_1 10] : List Int)) := ⟨_, rfl⟩
     replace H : (if y105.length + x3_1.length < 17592186044416 then (spec_leList.l0 k1 (wrap64 (Int.tdiv x0_1 10)) (y105 ++ x3_1)) else (none)) = some r := by first | (rw [hy105]; with_reducible exact H) | (have H2_ := (Option.bind_some _ _).symm.trans H; rw [hy105]; with_reducible exact H2_) | (have H2_ := (Option.bind_some _ _).symm.trans H; with_reducible exact H2_) | with_reducible exact H | (rw [hy105]; exact H) | exact H
     have Ny105 := Aside0.mk hy105
     clear hy105
     by_cases c5 : y105.length + x3_1.length < 17592186044416
     rotate_left
     · exact none_ (if_neg c5) H
     rw [if_pos c5] at H
     have LMc5 := Aside0.mk c5
     clear c5
     obtain ⟨y108, hy108⟩ : ∃ y_ : List Int, y_ = (y105 ++ x3_1) := ⟨_, rfl⟩
     replace H : (spec_leList.l0 k1 (wrap64 (Int.tdiv x0_1 10)) y108) = some r := by first | (rw [hy108]; with_reducible exact H) | (have H2_ := (Option.bind_some _ _).symm.trans H; rw [hy108]; with_reducible exact H2_) | (have H2_ := (Option.bind_some _ _).symm.trans H; with_reducible exact H2_) | with_reducible exact H | (rw [hy108]; exact H) | exact H
     have Ny108 := Aside0.mk hy108
     clear hy108
     have H' := Aside0.mk H
     clear H
     go_wp2_with (first | ((with_reducible refine gate_dst (N := 15) rfl ?_); refine Kd.R_lit (Kd.int .i64) _ 3 ?hg (N := 15) ?hd (xs := ([Int.tmod x0_1 10] : List Int)) (inner := [.int .i64 (Int.tmod x0_1 10)]) (ok := fun _ => True) (okp := fun _ => True) ?hr ?hp (fun _ hk => hk) trivial (Below.refl _ _) (Nat.le_refl _) (by simp) ?_; (case hd => rfl); (case hg => rfl); (case hr => first | (go_simp; done) | (go_simp; rfl)); (case hp => exact (Reps.one (show Kd.M (Kd.int .i64) _ _ _ (Int.tmod x0_1 10) [.int .i64 (Int.tmod x0_1 10)] from rfl) (Reps.none _ _))); intro v106 w6 ho7 hb hg_ hnew_; clear hg_ hnew_; (first | rw [← Ny105.out] at ho7 | (simp only [Int.reduceToNat] at ho7; rw [← Ny105.out] at ho7)); have n0_ := Aside0.mk (Kd.R_elder' z1_3_ (Kd.R_base ho7) hb); have n1_ := Aside0.mk (Kd.R_lower (Kd.R_new' ho7 (Kd.R_lt z1_3_)) (below_size z1_0_)); have n2_ := Aside0.mk (below_step z1_0_ hb); clear HO_3; clear HB; have HO_3 := n0_; have HO107 := n1_; have HB := n2_; clear n0_ n1_ n2_; clear hb ho7; obtain ⟨Ao9, co9, eo9⟩ := Kd.R_slice HO_3.out; subst eo9) | ((with_reducible refine gate_builtin (b := .append) (xs := #[.tmp 15, .tmp 16]) rfl ?_); at_builtin; refine Kd.R_append_rows (Kd.int .i64) (w0 := w) w.heap.size rfl (.tmp 15) (.tmp 16) 53 3 (.int .i64 0) 8 rfl Tryd.underlying53 info3 rfl (by decide) (by omega) v106 y105 x3_1 _ _ _ (fun k_ => some k_ ≠ (.slice Ao9 x3_1.length co9 : Value).ownBlock) (fun _ => False) rfl rfl ?aO ?aR (fun _ _ h => h) (fun _ h => h.elim) ?aF ?aB ?aS ?aL ?_; (case aR => repeat (first | exact (Kd.R_reads' HO_3.out).2.2 | (with_reducible refine Kd.C_alloc ?_ _) | (with_reducible refine Kd.C_drewN ?_ _) | (with_reducible refine Kd.C_drew ?_))); (case aB => exact z1_0_); (case aF => exact (fun k_ hk => Kd.fresh' (Kd.R_lt z1_3_) k_ hk)); (case aO => exact (by (with_reducible repeat (first | apply Kd.R_alloc | apply Kd.R_drewN | apply Kd.R_drew)); exact Kd.R_mono HO107.out (fun _ hk => hk.2))); (case aS => exact (below_size z1_0_)); (case aL => have := LMc5.out; omega); intro v109 w8 ho hb hg hat; rw [← Ny108.out] at ho; have n0_ := Aside0.mk (Kd.R_after (ok := (fun _ => True)) z1_3_ hg hat); have n1_ := Aside0.mk (hb); have n2_ := Aside0.mk (ho); clear HO_3; clear HB; clear HO107; have HO_3 := n0_; have HB := n1_; have HO110 := n2_; clear n0_ n1_ n2_; clear ho hb hg hat))
     go_roundg k1
     case measure => have := HK1.out; omega
     case rel => exact ⟨(wrap64 (Int.tdiv x0_1 10)), (y108), z1_2_, H', ⟨by have := HK1.out; omega⟩, ⟨by (with_reducible repeat (first | apply Kd.R_alloc | apply Kd.R_drewN | apply Kd.R_drew)); exact Kd.R_mono HO110.out (fun _ hk => trivial)⟩, ⟨by repeat (first | (with_reducible first | exact HB.out | apply below_alloc | apply pw_below_drewN | apply below_drew1) | exact HB.out)⟩⟩
   rw [if_neg c4] at H
   have c4b0 : decide (0 < x0_1) = false := decide_eq_false c4
   clear c4
   obtain rfl := Option.some.inj H
   go_wp2
   go_ret
   exact ⟨_, by first | rfl | (simp [errW_none, errW_some] <;> rfl) | (simp [*, errW_none, errW_some] <;> rfl), by (with_reducible repeat (first | apply Kd.R_alloc | apply Kd.R_drewN | apply Kd.R_drew)); exact HO_3.out, by repeat (first | (with_reducible first | exact HB.out | apply below_alloc | apply pw_below_drewN | apply below_drew1) | exact HB.out)⟩

/-! ### spec_leSorted: function 101 -/
mutual
def spec_leSorted.l0 : Nat → List Int → List Int → Int → Option (List Int)
 | 0, _, _, _ => none
 | k + 1, x3, x4, x5 => if x5 < 10 then (spec_leSorted.l1 k x3 x4 x5 x4 (x4.length : Int) 0) else (some x3)
def spec_leSorted.l1 : Nat → List Int → List Int → Int → List Int → Int → Int → Option (List Int)
 | 0, _, _, _, _, _, _ => none
 | k + 1, x3, x4, x5, x14, x15, x16 => if x16 < x15 then (if 0 ≤ x16 then (if x16 < (x14.length : Int) then (if (rd x14 x16) = x5 then (if x3.length < 17592186044416 then (spec_leSorted.l1 k (x3 ++ [x5]) x4 x5 x14 x15 (wrap64 (x16 + 1))) else (none)) else (spec_leSorted.l1 k x3 x4 x5 x14 x15 (wrap64 (x16 + 1)))) else (none)) else (none)) else (spec_leSorted.l0 k x3 x4 (wrap64 (x5 + 1)))
end
def spec_leSorted.f (k : Nat) (a0 : Int) : Option (List Int) := (spec_leList.f k a0).bind fun t111 => (spec_leSorted.l0 k ([] : List Int) t111 0)
theorem spec_leSorted.mono_l : ∀ k, (∀ y0 y1 y2, LeO (spec_leSorted.l0 k y0 y1 y2) (spec_leSorted.l0 (k + 1) y0 y1 y2)) ∧ (∀ y0 y1 y2 y3 y4 y5, LeO (spec_leSorted.l1 k y0 y1 y2 y3 y4 y5) (spec_leSorted.l1 (k + 1) y0 y1 y2 y3 y4 y5))
 | 0 => ⟨fun _ _ _ r h => by simp [spec_leSorted.l0] at h, fun _ _ _ _ _ _ r h => by simp [spec_leSorted.l1] at h⟩
 | k + 1 => by
  obtain ⟨ih0, ih1⟩ := spec_leSorted.mono_l k
  refine ⟨?_, ?_⟩
  · intro y0 y1 y2
    unfold spec_leSorted.l0
    repeat' first
    | (with_reducible exact ih0 _ _ _)
    | (with_reducible exact ih1 _ _ _ _ _ _)
    | (with_reducible exact spec_leList.mono _ _)
    | (with_reducible exact LeO.refl _)
    | (with_reducible exact LeO.none _)
    | (with_reducible refine LeO.ite ?_ ?_)
    | (with_reducible refine LeO.bind ?_ (fun _ => ?_))
    | exact ih0 _ _ _
    | exact ih1 _ _ _ _ _ _
    | exact spec_leList.mono _ _
    | exact LeO.none _
    | refine LeO.ite ?_ ?_
    | refine LeO.bind ?_ (fun _ => ?_)
  intro y0 y1 y2 y3 y4 y5
  unfold spec_leSorted.l1
  repeat' first
  | (with_reducible exact ih0 _ _ _)
  | (with_reducible exact ih1 _ _ _ _ _ _)
  | (with_reducible exact spec_leList.mono _ _)
  | (with_reducible exact LeO.refl _)
  | (with_reducible exact LeO.none _)
  | (with_reducible refine LeO.ite ?_ ?_)
  | (with_reducible refine LeO.bind ?_ (fun _ => ?_))
  | exact ih0 _ _ _
  | exact ih1 _ _ _ _ _ _
  | exact spec_leList.mono _ _
  | exact LeO.none _
  | refine LeO.ite ?_ ?_
  | refine LeO.bind ?_ (fun _ => ?_)
theorem spec_leSorted.mono : ∀ a0 k, LeO (spec_leSorted.f k a0) (spec_leSorted.f (k + 1) a0) := by
 intro a0 k
 obtain ⟨ih0, ih1⟩ := spec_leSorted.mono_l k
 unfold spec_leSorted.f
 repeat' first
  | (with_reducible exact ih0 _ _ _)
  | (with_reducible exact ih1 _ _ _ _ _ _)
  | (with_reducible exact spec_leList.mono _ _)
  | (with_reducible exact LeO.refl _)
  | (with_reducible exact LeO.none _)
  | (with_reducible refine LeO.ite ?_ ?_)
  | (with_reducible refine LeO.bind ?_ (fun _ => ?_))
  | exact ih0 _ _ _
  | exact ih1 _ _ _ _ _ _
  | exact spec_leList.mono _ _
  | exact LeO.none _
  | refine LeO.ite ?_ ?_
  | refine LeO.bind ?_ (fun _ => ?_)
set_option maxHeartbeats 8000000 in
set_option maxRecDepth 100000 in
theorem spec_leSorted.calls (k : Nat) (a0 : Int) (r : List Int) (w : World) (h : spec_leSorted.f k a0 = some r) :
 Calls Tryd.prog 101 #[.int .i64 a0] w fun e w' => ∃ v0_ : Value, e = .returned (v0_) ∧ Kd.R (Kd.int .i64) 3 w' w.heap.size (fun _ => True) v0_ r ∧ Below w.heap.size w w' := by
 have HB := Aside0.mk (Below.refl w.heap.size w)
 have H : ((spec_leList.f k a0).bind fun t111 => (spec_leSorted.l0 k ([] : List Int) t111 0)) = some r := h
 clear h
 replace H := Option.bind_eq_some_iff.mp H
 obtain ⟨t111, A20, H⟩ := H
 have A2 := Aside0.mk A20
 clear A20
 have H' := Aside0.mk H
 clear H
 go_enter Tryd.func101, Tryd.ntmps101
 go_wp2_with (first | ((with_reducible refine gate_callee (f := 146) rfl ?_); refine goesL_ (some 9) rfl rfl Tryd.func146 (by kernel_rfl) rfl #[.int .i64 a0] rfl z1_1_ ?_; (with_reducible refine (spec_leList.calls k a0 t111 _ A2.out).mono ?_); rintro e w3 ⟨v112, rfl, ho0, hb⟩; refine ⟨_, rfl, ?_⟩; have n0_ := Aside0.mk (Kd.R_lower ho0 (below_size z1_0_)); have n1_ := Aside0.mk (below_step z1_0_ hb); clear HB; have HO113 := n0_; have HB := n1_; clear n0_ n1_; (try clear hb); (try clear hb2); (try clear hk); (try clear hi); (try clear ho0)))
 go_loopg [3, 5] k (fun kq v3 v5 w' => ∃ (x3_1 : List Int) (x5_1 : Int), v5 = .int .i64 x5_1 ∧ Aside0 (spec_leSorted.l0 kq x3_1 t111 x5_1 = some r) ∧ Aside0 (kq ≤ k) ∧ Aside0 (Kd.R (Kd.int .i64) 3 w' w.heap.size (fun k_ => some k_ ≠ (v112 : Value).ownBlock) v3 x3_1) ∧ Aside0 (Kd.R (Kd.int .i64) 3 w' w.heap.size (fun k_ => some k_ ≠ (v3 : Value).ownBlock) v112 t111) ∧ Aside0 (Below w.heap.size w w'))
 case atStart => exact ⟨(([] : List Int)), (0), z1_2_, H', ⟨Nat.le_refl _⟩, ⟨by first | exact Kd.R_nil _ _ _ _ _ | exact Kd.N_nil _ _ _ _ _ | exact Kd.V_nil _ _ _ _ _ | exact Kd.Q_nil _ _ _ _ _ | exact Kd.S_nil _ _ _ _ _⟩, ⟨by (with_reducible repeat (first | apply Kd.R_alloc | apply Kd.R_drewN | apply Kd.R_drew)); exact Kd.R_mono HO113.out (fun _ hk => (by simp [Value.ownBlock]))⟩, ⟨by repeat (first | (with_reducible first | exact HB.out | apply below_alloc | apply pw_below_drewN | apply below_drew1) | exact HB.out)⟩⟩
 case round =>
  clear H'
  (try clear c1);(try clear p2)
  obtain ⟨x3_1, x5_1, rfl, HA, HK1, HO_3, HO_4, HB⟩ := hrel
  cases gk with
  | zero => exact absurd HA.out (by simp [spec_leSorted.l0])
  | succ k1 =>
   have H := HA.out
   clear HA
   simp only [spec_leSorted.l0] at H
   by_cases c4 : x5_1 < 10
   · rw [if_pos c4] at H
     have c4b0 : decide (x5_1 < 10) = true := decide_eq_true c4
     clear c4
     have H' := Aside0.mk H
     clear H
     obtain ⟨Ao5, co5, eo5⟩ := Kd.R_slice HO_4.out
     subst eo5
     go_wp2
     go_loopg [3, 16] k1 (fun kq v3 v16 w' => ∃ (x3_2 : List Int) (x16_2 : Int), v16 = .int .i64 x16_2 ∧ Aside0 (spec_leSorted.l1 kq x3_2 t111 x5_1 t111 (t111.length : Int) x16_2 = some r) ∧ Aside0 (kq ≤ k1) ∧ Aside0 (Kd.R (Kd.int .i64) 3 w' w.heap.size (fun k_ => some k_ ≠ ((.slice Ao5 t111.length co5) : Value).ownBlock ∧ some k_ ≠ ((.slice Ao5 t111.length co5) : Value).ownBlock) v3 x3_2) ∧ Aside0 (Kd.R (Kd.int .i64) 3 w' w.heap.size (fun k_ => some k_ ≠ (v3 : Value).ownBlock) (.slice Ao5 t111.length co5) t111) ∧ Aside0 (Kd.R (Kd.int .i64) 3 w' w.heap.size (fun k_ => some k_ ≠ (v3 : Value).ownBlock) (.slice Ao5 t111.length co5) t111) ∧ Aside0 (Below w.heap.size w w'))
     case atStart => exact ⟨(x3_1), (0), z1_2_, H', ⟨Nat.le_refl _⟩, ⟨by (with_reducible repeat (first | apply Kd.R_alloc | apply Kd.R_drewN | apply Kd.R_drew)); exact Kd.R_mono HO_3.out (fun _ hk => ⟨hk, hk⟩)⟩, ⟨by (with_reducible repeat (first | apply Kd.R_alloc | apply Kd.R_drewN | apply Kd.R_drew)); exact HO_4.out⟩, ⟨by (with_reducible repeat (first | apply Kd.R_alloc | apply Kd.R_drewN | apply Kd.R_drew)); exact HO_4.out⟩, ⟨by repeat (first | (with_reducible first | exact HB.out | apply below_alloc | apply pw_below_drewN | apply below_drew1) | exact HB.out)⟩⟩
     case round =>
      clear H'
      (try clear c1);(try clear p2);(try clear c4);(try clear c4b0);(try clear p2)
      obtain ⟨x3_2, x16_2, rfl, HA, HK2, HO_3, HO_4, HO_14, HB⟩ := hrel
      cases gk with
      | zero => exact absurd HA.out (by simp [spec_leSorted.l1])
      | succ k2 =>
       have H := HA.out
       clear HA
       simp only [spec_leSorted.l1] at H
       by_cases c6 : x16_2 < (t111.length : Int)
       · rw [if_pos c6] at H
         have c6b0 : decide (x16_2 < (t111.length : Int)) = true := decide_eq_true c6
         clear c6
         by_cases c7 : 0 ≤ x16_2
         rotate_left
         · exact none_ (if_neg c7) H
         rw [if_pos c7] at H
         have c7b0 : decide (0 ≤ x16_2) = true := decide_eq_true c7
         clear c7
         by_cases c8 : x16_2 < (t111.length : Int)
         rotate_left
         · exact none_ (if_neg c8) H
         rw [if_pos c8] at H
         have c8b0 : decide (x16_2 < (t111.length : Int)) = true := decide_eq_true c8
         clear c8
         by_cases c9 : (rd t111 x16_2) = x5_1
         · rw [if_pos c9] at H
           have c9b0 : ((rd t111 x16_2) == x5_1) = true := beq_iff_eq.mpr c9
           have c9b1 : ((rd t111 x16_2) != x5_1) = false := bne_eq_false_iff_eq.mpr c9
           clear c9
           by_cases c10 : x3_2.length < 17592186044416
           rotate_left
           · exact none_ (if_neg c10) H
           rw [if_pos c10] at H
           have LMc10 := Aside0.mk c10
           clear c10
           obtain ⟨y115, hy115⟩ : ∃ y_ : List Int, y_ = (x3_2 ++ [x5_1]) := ⟨_, rfl⟩
           replace H : (spec_leSorted.l1 k2 y115 t111 x5_1 t111 (t111.length : Int) (wrap64 (x16_2 + 1))) = some r := by first | (rw [hy115]; with_reducible exact H) | (have H2_ := (Option.bind_some _ _).symm.trans H; rw [hy115]; with_reducible exact H2_) | (have H2_ := (Option.bind_some _ _).symm.trans H; with_reducible exact H2_) | with_reducible exact H | (rw [hy115]; exact H) | exact H
           have Ny115 := Aside0.mk hy115
           clear hy115
           have H' := Aside0.mk H
           clear H
           have p114 : 0 ≤ (x16_2 : Int) := of_decide_eq_true z1_4_
           have q114 : x16_2 < (t111.length : Int) := of_decide_eq_true z1_4_
           obtain ⟨ad114, e114, hx114_0⟩ := Kd.at_int (Kd.R_reads' HO_14.out).2.2 x16_2 p114 q114
           cases e114
           replace p114 := eq_true p114
           replace q114 := eq_true q114
           go_wp2_with (first | ((with_reducible refine gate_builtin (b := .append) (xs := #[.tmp 23, .tmp 25]) rfl ?_); at_builtin; refine Kd.R_append (Kd.int .i64) (w0 := w) w.heap.size rfl (.tmp 23) (.tmp 25) 53 3 (.int .i64 0) 8 rfl Tryd.underlying53 info3 rfl (by decide) (by omega) u3 x3_2 x5_1 [.int .i64 x5_1] (fun k_ => some k_ ≠ (.slice (some ad114) t111.length co5 : Value).ownBlock ∧ some k_ ≠ (.slice (some ad114) t111.length co5 : Value).ownBlock) (fun _ => False) rfl rfl ?aP (fun _ hk => hk.elim) ?aF ?aO ?aB ?aS ?aL ?_; (case aP => exact rfl); (case aB => exact z1_0_); (case aF => exact (fun k_ hk => ⟨Kd.fresh' (Kd.R_lt (by (with_reducible repeat (first | apply Kd.R_alloc | apply Kd.R_drewN | apply Kd.R_drew)); exact HO_4.out)) k_ hk, Kd.fresh' (Kd.R_lt (by (with_reducible repeat (first | apply Kd.R_alloc | apply Kd.R_drewN | apply Kd.R_drew)); exact HO_14.out)) k_ hk⟩)); (case aO => exact z1_3_); (case aS => exact (below_size z1_0_)); (case aL => have := LMc10.out; omega); intro v116 w11 ho hb hg hat; rw [← Ny115.out] at ho; have n0_ := Aside0.mk (Kd.R_after (ok := (fun _ => True)) (by (with_reducible repeat (first | apply Kd.R_alloc | apply Kd.R_drewN | apply Kd.R_drew)); exact Kd.R_mono HO_4.out (fun _ hk => ⟨trivial, hk⟩)) hg hat); have n1_ := Aside0.mk (Kd.R_after (ok := (fun _ => True)) (by (with_reducible repeat (first | apply Kd.R_alloc | apply Kd.R_drewN | apply Kd.R_drew)); exact Kd.R_mono HO_14.out (fun _ hk => ⟨trivial, hk⟩)) hg hat); have n2_ := Aside0.mk (hb); have n3_ := Aside0.mk (ho); clear HO_4; clear HO_14; clear HB; clear HO_3; have HO_4 := n0_; have HO_14 := n1_; have HB := n2_; have HO117 := n3_; clear n0_ n1_ n2_ n3_; clear ho hb hg hat))
           go_roundg k2
           case measure => have := HK1.out; have := HK2.out; omega
           case rel => exact ⟨(y115), (wrap64 (x16_2 + 1)), z1_2_, H', ⟨by have := HK1.out; have := HK2.out; omega⟩, ⟨by (with_reducible repeat (first | apply Kd.R_alloc | apply Kd.R_drewN | apply Kd.R_drew)); exact HO117.out⟩, ⟨by (with_reducible repeat (first | apply Kd.R_alloc | apply Kd.R_drewN | apply Kd.R_drew)); exact Kd.R_mono HO_4.out (fun _ hk => hk.2)⟩, ⟨by (with_reducible repeat (first | apply Kd.R_alloc | apply Kd.R_drewN | apply Kd.R_drew)); exact Kd.R_mono HO_14.out (fun _ hk => hk.2)⟩, ⟨by repeat (first | (with_reducible first | exact HB.out | apply below_alloc | apply pw_below_drewN | apply below_drew1) | exact HB.out)⟩⟩
         rw [if_neg c9] at H
         have c9b0 : ((rd t111 x16_2) == x5_1) = false := beq_eq_false_iff_ne.mpr c9
         have c9b1 : ((rd t111 x16_2) != x5_1) = true := bne_iff_ne.mpr c9
         have H' := Aside0.mk H
         clear H
         have p114 : 0 ≤ (x16_2 : Int) := of_decide_eq_true z1_4_
         have q114 : x16_2 < (t111.length : Int) := of_decide_eq_true z1_4_
         obtain ⟨ad114, e114, hx114_0⟩ := Kd.at_int (Kd.R_reads' HO_14.out).2.2 x16_2 p114 q114
         cases e114
         replace p114 := eq_true p114
         replace q114 := eq_true q114
         go_wp2
         go_roundg k2
         case measure => have := HK1.out; have := HK2.out; omega
         case rel => exact ⟨(x3_2), (wrap64 (x16_2 + 1)), z1_2_, H', ⟨by have := HK1.out; have := HK2.out; omega⟩, ⟨by (with_reducible repeat (first | apply Kd.R_alloc | apply Kd.R_drewN | apply Kd.R_drew)); exact HO_3.out⟩, ⟨by (with_reducible repeat (first | apply Kd.R_alloc | apply Kd.R_drewN | apply Kd.R_drew)); exact HO_4.out⟩, ⟨by (with_reducible repeat (first | apply Kd.R_alloc | apply Kd.R_drewN | apply Kd.R_drew)); exact HO_14.out⟩, ⟨by repeat (first | (with_reducible first | exact HB.out | apply below_alloc | apply pw_below_drewN | apply below_drew1) | exact HB.out)⟩⟩
       rw [if_neg c6] at H
       have c6b0 : decide (x16_2 < (t111.length : Int)) = false := decide_eq_false c6
       clear c6
       have H' := Aside0.mk H
       clear H
       go_wp2
       go_roundg k2
       case measure => have := HK1.out; have := HK2.out; omega
       case rel => exact ⟨(x3_2), (wrap64 (x5_1 + 1)), z1_2_, H', ⟨by have := HK1.out; have := HK2.out; omega⟩, ⟨by (with_reducible repeat (first | apply Kd.R_alloc | apply Kd.R_drewN | apply Kd.R_drew)); exact Kd.R_mono HO_3.out (fun _ hk => hk.1)⟩, ⟨by (with_reducible repeat (first | apply Kd.R_alloc | apply Kd.R_drewN | apply Kd.R_drew)); exact HO_4.out⟩, ⟨by repeat (first | (with_reducible first | exact HB.out | apply below_alloc | apply pw_below_drewN | apply below_drew1) | exact HB.out)⟩⟩
   rw [if_neg c4] at H
   have c4b0 : decide (x5_1 < 10) = false := decide_eq_false c4
   clear c4
   obtain rfl := Option.some.inj H
   go_wp2
   go_ret
   exact ⟨_, by first | rfl | (simp [errW_none, errW_some] <;> rfl) | (simp [*, errW_none, errW_some] <;> rfl), by (with_reducible repeat (first | apply Kd.R_alloc | apply Kd.R_drewN | apply Kd.R_drew)); exact Kd.R_mono HO_3.out (fun _ hk => trivial), by repeat (first | (with_reducible first | exact HB.out | apply below_alloc | apply pw_below_drewN | apply below_drew1) | exact HB.out)⟩

/-! ### spec_GreatestSameDigits: function 49 -/
def spec_GreatestSameDigits.l0 : Nat → List Int → Int → Int → Option (Int × Bool)
 | 0, _, _, _ => none
 | k + 1, x4, x5, x6 => if x6 ≥ 0 then (if 0 ≤ x6 then (if x6 < (x4.length : Int) then (spec_GreatestSameDigits.l0 k x4 (wrap64 ((wrap64 (10 * x5)) + (rd x4 x6))) (wrap64 (x6 - 1))) else (none)) else (none)) else (some (x5, true))
def spec_GreatestSameDigits.f (k : Nat) (a0 : Int) : Option (Int × Bool) := (spec_leNumber.f a0).bind fun t118 => (if t118 = true then ((spec_leSorted.f k a0).bind fun t119 => (spec_GreatestSameDigits.l0 k t119 0 (wrap64 ((t119.length : Int) - 1)))) else (some (0, false)))
theorem spec_GreatestSameDigits.mono_l : ∀ k, (∀ y0 y1 y2, LeO (spec_GreatestSameDigits.l0 k y0 y1 y2) (spec_GreatestSameDigits.l0 (k + 1) y0 y1 y2))
 | 0 => fun _ _ _ r h => by simp [spec_GreatestSameDigits.l0] at h
 | k + 1 => by
  have ih0 := spec_GreatestSameDigits.mono_l k
  intro y0 y1 y2
  unfold spec_GreatestSameDigits.l0
  repeat' first
  | (with_reducible exact ih0 _ _ _)
  | (with_reducible exact spec_leSorted.mono _ _)
  | (with_reducible exact LeO.refl _)
  | (with_reducible exact LeO.none _)
  | (with_reducible refine LeO.ite ?_ ?_)
  | (with_reducible refine LeO.bind ?_ (fun _ => ?_))
  | exact ih0 _ _ _
  | exact spec_leSorted.mono _ _
  | exact LeO.none _
  | refine LeO.ite ?_ ?_
  | refine LeO.bind ?_ (fun _ => ?_)
theorem spec_GreatestSameDigits.mono : ∀ a0 k, LeO (spec_GreatestSameDigits.f k a0) (spec_GreatestSameDigits.f (k + 1) a0) := by
 intro a0 k
 have ih0 := spec_GreatestSameDigits.mono_l k
 unfold spec_GreatestSameDigits.f
 repeat' first
  | (with_reducible exact ih0 _ _ _)
  | (with_reducible exact spec_leSorted.mono _ _)
  | (with_reducible exact LeO.refl _)
  | (with_reducible exact LeO.none _)
  | (with_reducible refine LeO.ite ?_ ?_)
  | (with_reducible refine LeO.bind ?_ (fun _ => ?_))
  | exact ih0 _ _ _
  | exact spec_leSorted.mono _ _
  | exact LeO.none _
  | refine LeO.ite ?_ ?_
  | refine LeO.bind ?_ (fun _ => ?_)
set_option maxHeartbeats 8000000 in
set_option maxRecDepth 100000 in
theorem spec_GreatestSameDigits.calls (k : Nat) (a0 : Int) (r1 : Int) (r2 : Bool) (w : World) (h : spec_GreatestSameDigits.f k a0 = some (r1, r2)) :
 Calls Tryd.prog 49 #[.int .i64 a0] w fun e w' => e = .returned (.tuple #[.int .i64 r1, .bool r2]) ∧ Below w.heap.size w w' := by
 have HB := Aside0.mk (Below.refl w.heap.size w)
 have H : ((spec_leNumber.f a0).bind fun t118 => (if t118 = true then ((spec_leSorted.f k a0).bind fun t119 => (spec_GreatestSameDigits.l0 k t119 0 (wrap64 ((t119.length : Int) - 1)))) else (some (0, false)))) = some (r1, r2) := h
 clear h
 replace H := Option.bind_eq_some_iff.mp H
 obtain ⟨t118, A20, H⟩ := H
 have A2 := Aside0.mk A20
 clear A20
 by_cases c3 : t118 = true
 · subst c3
   have H1 : ((spec_leSorted.f k a0).bind fun t119 => (spec_GreatestSameDigits.l0 k t119 0 (wrap64 ((t119.length : Int) - 1)))) = some (r1, r2) := by rw [if_pos rfl] at H; exact H
   clear H
   have H := H1
   clear H1
   replace H := Option.bind_eq_some_iff.mp H
   obtain ⟨t119, A40, H⟩ := H
   have A4 := Aside0.mk A40
   clear A40
   have H' := Aside0.mk H
   clear H
   go_enter Tryd.func49, Tryd.ntmps49
   go_wp2_with (first | ((with_reducible refine gate_callee (f := 66) rfl ?_); refine goesL_ (some 8) rfl rfl Tryd.func66 (by kernel_rfl) rfl #[.int .i64 a0] rfl z1_1_ ?_; (with_reducible refine (spec_leNumber.calls a0 true _ A2.out).mono ?_); rintro e w' ⟨rfl, ⟨nd, rfl⟩⟩; refine ⟨_, rfl, ?_⟩) | ((with_reducible refine gate_callee (f := 101) rfl ?_); refine goesL_ (some 11) rfl rfl Tryd.func101 (by kernel_rfl) rfl #[.int .i64 a0] rfl z1_1_ ?_; (with_reducible refine (spec_leSorted.calls k a0 t119 _ A4.out).mono ?_); rintro e w5 ⟨v120, rfl, ho0, hb⟩; refine ⟨_, rfl, ?_⟩; have n0_ := Aside0.mk (Kd.R_lower ho0 (below_size z1_0_)); have n1_ := Aside0.mk (below_step z1_0_ hb); clear HB; have HO121 := n0_; have HB := n1_; clear n0_ n1_; (try clear hb); (try clear hb2); (try clear hk); (try clear hi); (try clear ho0); obtain ⟨Ao6, co6, eo6⟩ := Kd.R_slice HO121.out; subst eo6))
   go_loopg [5, 6] k (fun kq v5 v6 w' => ∃ (x5_1 : Int) (x6_1 : Int), v5 = .int .i64 x5_1 ∧ v6 = .int .i64 x6_1 ∧ Aside0 (spec_GreatestSameDigits.l0 kq t119 x5_1 x6_1 = some (r1, r2)) ∧ Aside0 (kq ≤ k) ∧ Aside0 (Kd.R (Kd.int .i64) 3 w' w.heap.size (fun _ => True) (.slice Ao6 t119.length co6) t119) ∧ Aside0 (Below w.heap.size w w'))
   case atStart => exact ⟨(0), (wrap64 ((t119.length : Int) - 1)), z1_2_, z1_2_, H', ⟨Nat.le_refl _⟩, ⟨by (with_reducible repeat (first | apply Kd.R_alloc | apply Kd.R_drewN | apply Kd.R_drew)); exact HO121.out⟩, ⟨by repeat (first | (with_reducible first | exact HB.out | apply below_alloc | apply pw_below_drewN | apply below_drew1) | exact HB.out)⟩⟩
   case round =>
    clear H'
    (try clear c1);(try clear p2);(try clear c3);(try clear c4);(try clear c6);(try clear p6)
    obtain ⟨x5_1, x6_1, rfl, rfl, HA, HK1, HO_4, HB⟩ := hrel
    cases gk with
    | zero => exact absurd HA.out (by simp [spec_GreatestSameDigits.l0])
    | succ k1 =>
     have H := HA.out
     clear HA
     simp only [spec_GreatestSameDigits.l0] at H
     by_cases c7 : x6_1 ≥ 0
     · rw [if_pos c7] at H
       have c7b0 : decide (0 ≤ x6_1) = true := decide_eq_true c7
       clear c7
       by_cases c8 : 0 ≤ x6_1
       rotate_left
       · exact none_ (if_neg c8) H
       rw [if_pos c8] at H
       have c8b0 : decide (0 ≤ x6_1) = true := decide_eq_true c8
       clear c8
       by_cases c9 : x6_1 < (t119.length : Int)
       rotate_left
       · exact none_ (if_neg c9) H
       rw [if_pos c9] at H
       have c9b0 : decide (x6_1 < (t119.length : Int)) = true := decide_eq_true c9
       clear c9
       have H' := Aside0.mk H
       clear H
       have p122 : 0 ≤ (x6_1 : Int) := of_decide_eq_true z1_4_
       have q122 : x6_1 < (t119.length : Int) := of_decide_eq_true z1_4_
       obtain ⟨ad122, e122, hx122_0⟩ := Kd.at_int (Kd.R_reads' HO_4.out).2.2 x6_1 p122 q122
       cases e122
       replace p122 := eq_true p122
       replace q122 := eq_true q122
       go_wp2
       go_roundg k1
       case measure => have := HK1.out; omega
       case rel => exact ⟨(wrap64 ((wrap64 (10 * x5_1)) + (rd t119 x6_1))), (wrap64 (x6_1 - 1)), z1_2_, z1_2_, H', ⟨by have := HK1.out; omega⟩, ⟨by (with_reducible repeat (first | apply Kd.R_alloc | apply Kd.R_drewN | apply Kd.R_drew)); exact HO_4.out⟩, ⟨by repeat (first | (with_reducible first | exact HB.out | apply below_alloc | apply pw_below_drewN | apply below_drew1) | exact HB.out)⟩⟩
     rw [if_neg c7] at H
     have c7b0 : decide (0 ≤ x6_1) = false := decide_eq_false c7
     clear c7
     simp only [Option.some.injEq, Prod.mk.injEq] at H
     obtain ⟨rfl, rfl⟩ := H
     go_wp2
     go_ret2
     exact ⟨by first | rfl | (simp [errW_none, errW_some] <;> rfl) | (simp [*, errW_none, errW_some] <;> rfl), by repeat (first | (with_reducible first | exact HB.out | apply below_alloc | apply pw_below_drewN | apply below_drew1) | exact HB.out)⟩
 replace c3 := Bool.eq_false_iff.mpr c3
 subst c3
 have H1 : (some (0, false)) = some (r1, r2) := by rw [if_neg (show ¬ (false = true) by decide)] at H; exact H
 clear H
 have H := H1
 clear H1
 simp only [Option.some.injEq, Prod.mk.injEq] at H
 obtain ⟨rfl, rfl⟩ := H
 go_enter Tryd.func49, Tryd.ntmps49
 go_wp2_with (first | ((with_reducible refine gate_callee (f := 66) rfl ?_); refine goesL_ (some 8) rfl rfl Tryd.func66 (by kernel_rfl) rfl #[.int .i64 a0] rfl z1_1_ ?_; (with_reducible refine (spec_leNumber.calls a0 false _ A2.out).mono ?_); rintro e w' ⟨rfl, ⟨nd, rfl⟩⟩; refine ⟨_, rfl, ?_⟩))
 go_ret2
 exact ⟨by first | rfl | (simp [errW_none, errW_some] <;> rfl) | (simp [*, errW_none, errW_some] <;> rfl), by repeat (first | (with_reducible first | exact HB.out | apply below_alloc | apply pw_below_drewN | apply below_drew1) | exact HB.out)⟩

/-! ### impl_within: function 93 -/
def impl_within.f (a0 : Int) (a1 : Int) (a2 : Int) : Option (Bool) := if a1 ≤ a0 then (some (decide (a0 ≤ a2))) else (some false)
set_option maxHeartbeats 8000000 in
set_option maxRecDepth 100000 in
theorem impl_within.calls (a0 : Int) (a1 : Int) (a2 : Int) (r : Bool) (w : World) (h : impl_within.f a0 a1 a2 = some r) :
 Calls Tryd.prog 93 #[.int .i64 a0, .int .i64 a1, .int .i64 a2] w fun e w' => e = .returned (.bool r) ∧ Drawn0 w w' := by
 have H : (if a1 ≤ a0 then (some (decide (a0 ≤ a2))) else (some false)) = some r := h
 clear h
 by_cases c4 : a1 ≤ a0
 · rw [if_pos c4] at H
   have c4b0 : decide (a1 ≤ a0) = true := decide_eq_true c4
   clear c4
   obtain rfl := Option.some.inj H
   go_enter Tryd.func93, Tryd.ntmps93
   go_wp2
   go_ret
   exact ⟨by first | rfl | (simp; done) | (simp [*]; done), by repeat (first | exact Drawn0.refl _ | apply Drawn0.step)⟩
 rw [if_neg c4] at H
 have c4b0 : decide (a1 ≤ a0) = false := decide_eq_false c4
 clear c4
 obtain rfl := Option.some.inj H
 go_enter Tryd.func93, Tryd.ntmps93
 go_wp2
 go_ret
 exact ⟨by first | rfl | (simp; done) | (simp [*]; done), by repeat (first | exact Drawn0.refl _ | apply Drawn0.step)⟩

/-! ### impl_isLeast: function 68 -/
def impl_isLeast.f (a0 : Int) : Option (Bool) := (impl_within.f a0 0 1000000000000).bind fun t123 => (some t123)
set_option maxHeartbeats 8000000 in
set_option maxRecDepth 100000 in
theorem impl_isLeast.calls (a0 : Int) (r : Bool) (w : World) (h : impl_isLeast.f a0 = some r) :
 Calls Tryd.prog 68 #[.int .i64 a0] w fun e w' => e = .returned (.bool r) ∧ Drawn0 w w' := by
 have H : ((impl_within.f a0 0 1000000000000).bind fun t123 => (some t123)) = some r := h
 clear h
 replace H := Option.bind_eq_some_iff.mp H
 obtain ⟨t123, A20, H⟩ := H
 have A2 := Aside0.mk A20
 clear A20
 obtain rfl := Option.some.inj H
 go_enter Tryd.func68, Tryd.ntmps68
 go_wp2_with (first | ((with_reducible refine gate_callee (f := 93) rfl ?_); refine goesL_ (some 4) rfl rfl Tryd.func93 (by kernel_rfl) rfl #[.int .i64 a0, .int .i64 0, .int .i64 1000000000000] rfl z1_1_ ?_; (with_reducible refine (impl_within.calls a0 0 1000000000000 t123 _ A2.out).mono ?_); rintro e w' ⟨rfl, ⟨nd, rfl⟩⟩; refine ⟨_, rfl, ?_⟩))
 go_ret
 exact ⟨by first | rfl | (simp; done) | (simp [*]; done), by repeat (first | exact Drawn0.refl _ | apply Drawn0.step)⟩

/-! ### strconv_Itoa: function 89 -/
def strconv_Itoa.f (a0 : Int) : Option ByteArray := if -9223372036854775808 ≤ a0 then (if a0 ≤ 9223372036854775807 then some ⟨(Lib.itoa a0).toArray⟩ else none) else none
theorem strconv_Itoa.calls (a0 : Int) (r : ByteArray) (w : World) (hT : Shelf.TabOk w) (h : strconv_Itoa.f a0 = some r) :
 Calls Tryd.prog 89 #[.int .i64 a0] w fun e w' => e = .returned (.string r) ∧ Below w.heap.size w w' := by
 unfold strconv_Itoa.f at h
 by_cases h0 : -9223372036854775808 ≤ a0
 rotate_left
 · exact none_ (if_neg h0) h
 rw [if_pos h0] at h
 by_cases h1 : a0 ≤ 9223372036854775807
 rotate_left
 · exact none_ (if_neg h1) h
 rw [if_pos h1] at h
 obtain rfl := Option.some.inj h
 exact Shelf.Itoa_all a0 h0 h1 w hT

/-! ### impl_numberOf: function 104 -/
def impl_numberOf.l0 : Nat → ByteArray → Int → Int → Int → Option (Int)
 | 0, _, _, _, _ => none
 | k + 1, x0, x3, x6, x7 => if x7 < x6 then (if 0 ≤ x7 then (if x7 < (x0.size : Int) then (impl_numberOf.l0 k x0 (wrap64 ((wrap64 (10 * x3)) + (((bt x0 x7) - 48) % 256))) x6 (wrap64 (x7 + 1))) else (none)) else (none)) else (some x3)
def impl_numberOf.f (k : Nat) (a0 : ByteArray) : Option (Int) := impl_numberOf.l0 k a0 0 (a0.size : Int) 0
theorem impl_numberOf.mono_l : ∀ k, (∀ y0 y1 y2 y3, LeO (impl_numberOf.l0 k y0 y1 y2 y3) (impl_numberOf.l0 (k + 1) y0 y1 y2 y3))
 | 0 => fun _ _ _ _ r h => by simp [impl_numberOf.l0] at h
 | k + 1 => by
  have ih0 := impl_numberOf.mono_l k
  intro y0 y1 y2 y3
  unfold impl_numberOf.l0
  repeat' first
  | (with_reducible exact ih0 _ _ _ _)
  | (with_reducible exact LeO.refl _)
  | (with_reducible exact LeO.none _)
  | (with_reducible refine LeO.ite ?_ ?_)
  | (with_reducible refine LeO.bind ?_ (fun _ => ?_))
  | exact ih0 _ _ _ _
  | exact LeO.none _
  | refine LeO.ite ?_ ?_
  | refine LeO.bind ?_ (fun _ => ?_)
theorem impl_numberOf.mono : ∀ a0 k, LeO (impl_numberOf.f k a0) (impl_numberOf.f (k + 1) a0) := by
 intro a0 k
 have ih0 := impl_numberOf.mono_l k
 unfold impl_numberOf.f
 repeat' first
  | (with_reducible exact ih0 _ _ _ _)
  | (with_reducible exact LeO.refl _)
  | (with_reducible exact LeO.none _)
  | (with_reducible refine LeO.ite ?_ ?_)
  | (with_reducible refine LeO.bind ?_ (fun _ => ?_))
  | exact ih0 _ _ _ _
  | exact LeO.none _
  | refine LeO.ite ?_ ?_
  | refine LeO.bind ?_ (fun _ => ?_)
set_option maxHeartbeats 8000000 in
set_option maxRecDepth 100000 in
theorem impl_numberOf.calls (k : Nat) (a0 : ByteArray) (r : Int) (w : World) (h : impl_numberOf.f k a0 = some r) :
 Calls Tryd.prog 104 #[.string a0] w fun e w' => e = .returned (.int .i64 r) ∧ Drawn0 w w' := by
 have H : (impl_numberOf.l0 k a0 0 (a0.size : Int) 0) = some r := h
 clear h
 have H' := Aside0.mk H
 clear H
 go_enter Tryd.func104, Tryd.ntmps104
 go_wp2
 go_loopg [3, 7] k (fun kq v3 v7 w' => ∃ (x3_1 : Int) (x7_1 : Int), v3 = .int .i64 x3_1 ∧ v7 = .int .i64 x7_1 ∧ Aside0 (impl_numberOf.l0 kq a0 x3_1 (a0.size : Int) x7_1 = some r) ∧ Aside0 (kq ≤ k) ∧ Drawn0 w w')
 case atStart => exact ⟨(0), (0), z1_2_, z1_2_, H', ⟨Nat.le_refl _⟩, by repeat (first | exact Drawn0.refl _ | apply Drawn0.step)⟩
 case round =>
  clear H'
  try clear c1
  obtain ⟨x3_1, x7_1, rfl, rfl, HA, HK1, ⟨m1, rfl⟩⟩ := hrel
  cases gk with
  | zero => exact absurd HA.out (by simp [impl_numberOf.l0])
  | succ k1 =>
   have H := HA.out
   clear HA
   simp only [impl_numberOf.l0] at H
   by_cases c2 : x7_1 < (a0.size : Int)
   · rw [if_pos c2] at H
     have c2b0 : decide (x7_1 < (a0.size : Int)) = true := decide_eq_true c2
     clear c2
     by_cases c3 : 0 ≤ x7_1
     rotate_left
     · exact none_ (if_neg c3) H
     rw [if_pos c3] at H
     have c3b0 : decide (0 ≤ x7_1) = true := decide_eq_true c3
     clear c3
     by_cases c4 : x7_1 < (a0.size : Int)
     rotate_left
     · exact none_ (if_neg c4) H
     rw [if_pos c4] at H
     have c4b0 : decide (x7_1 < (a0.size : Int)) = true := decide_eq_true c4
     clear c4
     have H' := Aside0.mk H
     clear H
     have p5 : 0 ≤ (x7_1 : Int) := of_decide_eq_true z1_4_
     have q5 : x7_1 < (a0.size : Int) := of_decide_eq_true z1_4_
     have hx5 := bt_at a0 x7_1
     replace p5 := eq_true p5
     replace q5 := eq_true q5
     go_wp2
     go_roundg k1
     case measure => have := HK1.out; omega
     case rel => exact ⟨(wrap64 ((wrap64 (10 * x3_1)) + (((bt a0 x7_1) - 48) % 256))), (wrap64 (x7_1 + 1)), z1_2_, z1_2_, H', ⟨by have := HK1.out; omega⟩, by repeat (first | exact Drawn0.refl _ | apply Drawn0.step)⟩
   rw [if_neg c2] at H
   have c2b0 : decide (x7_1 < (a0.size : Int)) = false := decide_eq_false c2
   clear c2
   obtain rfl := Option.some.inj H
   go_wp2
   go_ret
   exact ⟨by first | rfl | (simp; done) | (simp [*]; done), by repeat (first | exact Drawn0.refl _ | apply Drawn0.step)⟩

/-! ### impl_GreatestSameDigits: function 50 -/
-- behind 68 89 104
def impl_GreatestSameDigits.f (k : Nat) (a0 : Int) : Option (Int × Bool) := (impl_isLeast.f a0).bind fun t => if t = true then (strconv_Itoa.f a0).bind fun s => (if s.size ≤ 64 then (impl_numberOf.f k (strOfNums (SortB.sorted (bytesOf s)).reverse)).bind fun r => some (r, true) else none) else some (0, false)
theorem impl_GreatestSameDigits.mono : ∀ a0 k, LeO (impl_GreatestSameDigits.f k a0) (impl_GreatestSameDigits.f (k + 1) a0) := by
 intro a0 k
 unfold impl_GreatestSameDigits.f
 exact LeO.bind (LeO.refl _) (fun _ => LeO.ite (LeO.bind (LeO.refl _) (fun _ => LeO.ite (LeO.bind (impl_numberOf.mono _ _) (fun _ => LeO.refl _)) (LeO.refl _))) (LeO.refl _))
set_option maxHeartbeats 8000000 in
set_option maxRecDepth 100000 in
open Bytes in
theorem impl_GreatestSameDigits.calls (k : Nat) (a0 : Int) (r1 : Int) (r2 : Bool) (w : World) (hT : Shelf.TabOk w) (h : impl_GreatestSameDigits.f k a0 = some (r1, r2)) :
 Calls Tryd.prog 50 #[.int .i64 a0] w fun e w' => e = .returned (.tuple #[.int .i64 r1, .bool r2]) ∧ Below w.heap.size w w' := by
 have HT := Aside0.mk hT
 unfold impl_GreatestSameDigits.f at h
 obtain ⟨t, ht, h⟩ := Option.bind_eq_some_iff.mp h
 have A1 := Aside0.mk ht
 clear hT ht
 cases t with
 | false =>
  rw [if_neg (by decide)] at h
  simp only [Option.some.injEq, Prod.mk.injEq] at h
  obtain ⟨rfl, rfl⟩ := h
  go_enter Tryd.func50, Tryd.ntmps50
  go_wp2_with (first | (go_at_call 68; (with_reducible refine (impl_isLeast.calls a0 false _ A1.out).mono ?_); rintro e w' ⟨rfl, ⟨nd, rfl⟩⟩))
  go_ret2
  exact ⟨rfl, by repeat (first | exact Below.refl _ _ | apply pw_below_drewN | apply below_drew1)⟩
 | true =>
  rw [if_pos rfl] at h
  obtain ⟨s, hs, h⟩ := Option.bind_eq_some_iff.mp h
  by_cases hz : s.size ≤ 64
  rotate_left
  · exact none_ (if_neg hz) h
  rw [if_pos hz] at h
  obtain ⟨q, hq, h⟩ := Option.bind_eq_some_iff.mp h
  simp only [Option.some.injEq, Prod.mk.injEq] at h
  obtain ⟨rfl, rfl⟩ := h
  have hbl : (bytesOf s).length = s.size := (bytes_reads w 5 s (by omega)).1
  obtain ⟨ys, hys⟩ : ∃ ys, ys = (SortB.sorted (bytesOf s)).reverse := ⟨_, rfl⟩
  have hyl : ys.length = s.size := by rw [hys, List.length_reverse, SortB.sorted_length, hbl]
  rw [← hys] at hq
  have HS := Aside0.mk hs
  have HQ := Aside0.mk hq
  have HZ := Aside0.mk hz
  have HBL := Aside0.mk hbl
  have HYS := Aside0.mk hys
  have HYL := Aside0.mk hyl
  clear hs hq hz hbl hys hyl
  go_enter Tryd.func50, Tryd.ntmps50
  go_wp2_with (first | (go_at_call 68; (with_reducible refine (impl_isLeast.calls a0 true _ A1.out).mono ?_); rintro e w' ⟨rfl, ⟨nd, rfl⟩⟩) | (go_at_call 89; (with_reducible refine (strconv_Itoa.calls a0 s _ (Shelf.TabOk.below HT.out (by repeat (first | exact Below.refl _ _ | apply pw_below_drewN | apply below_drew1))) HS.out).mono ?_); rintro e w6 ⟨rfl, hb⟩; have HB6 := Aside0.mk (below_step (by repeat (first | exact Below.refl _ _ | apply pw_below_drewN | apply below_drew1) : Below w.heap.size w _) hb); clear hb; have hcv := Lib.run_convert_string_bytes (P := Tryd.prog) w6 9 50 5 s (u := .string) Tryd.underlying9 Tryd.underlying50 Tryd.underlying5; have hgr := grown_le w6 s.size 5 (by have := HZ.out; omega); have hm := MR_conv w6 5 s (by have := HZ.out; omega) w6.heap.size (Nat.le_refl _) hgr.2 hgr.1; have HBV := Aside0.mk (bytes_below (Below.refl w6.heap.size w6) (Nat.le_refl _) 5 s); generalize Lib.bytesWorld w6 5 s = w7 at hm HBV hcv; generalize grownCap w6 s.size 0 5 = cap at hm hcv; have HM := Aside0.mk hm; clear hm hgr) | (go_at_call 102; (with_reducible refine (SortB.Sort_MR HBV.out HM.out (by have := HBL.out; have := HZ.out; omega)).mono ?_); rintro e w8 ⟨rfl, ho, hb⟩; clear HM HBV hcv; have HM := Aside0.mk ho; have HBV := Aside0.mk hb; clear ho hb) | (go_at_call 103; (with_reducible refine (RevB.Reverse_MR HBV.out HM.out (by rw [SortB.sorted_length]; have := HBL.out; have := HZ.out; omega)).mono ?_); rintro e w9 ⟨rfl, ho, hb⟩; rw [← HYS.out] at ho; clear HM HBV; have HBV := Aside0.mk hb; have hC := (MR_reads' ho).2.2; rw [HYL.out] at hC; have hcv := Kd.C_string (P := Tryd.prog) (src := 50) (dst := 9) (e := 5) (c := cap) Tryd.underlying50 Tryd.underlying5 Tryd.underlying9 hC; clear ho hb hC) | (go_at_call 104; (with_reducible refine (impl_numberOf.calls k _ q _ HQ.out).mono ?_); rintro e w' ⟨rfl, ⟨nd, rfl⟩⟩))
  go_ret2
  exact ⟨rfl, by repeat (first | exact below_step HB6.out HBV.out | apply pw_below_drewN | apply below_drew1)⟩

/-! ### laws_FnExactGreatestSameDigits: function 8 -/
def laws_FnExactGreatestSameDigits.f (k : Nat) (a0 : Int) : Option (Bool) := (spec_GreatestSameDigits.f k a0).bind fun bt124 => ((impl_GreatestSameDigits.f k a0).bind fun bt126 => (if bt126.1 = bt124.1 then (if (bt126.2 != bt124.2) = true then (some false) else (some true)) else (some false)))
set_option maxHeartbeats 8000000 in
set_option maxRecDepth 100000 in
theorem laws_FnExactGreatestSameDigits.calls (k : Nat) (a0 : Int) (r : Bool) (w : World) (hT : Shelf.TabOk w) (hr_ : Aside0 (r = true)) (h : laws_FnExactGreatestSameDigits.f k a0 = some r) :
 Calls Tryd.prog 8 #[.int .i64 a0] w fun e w' => e = .returned (.bool r) ∧ Below w.heap.size w w' := by
 have HT := Aside0.mk hT
 clear hT
 have HB := Aside0.mk (Below.refl w.heap.size w)
 have H : ((spec_GreatestSameDigits.f k a0).bind fun bt124 => ((impl_GreatestSameDigits.f k a0).bind fun bt126 => (if bt126.1 = bt124.1 then (if (bt126.2 != bt124.2) = true then (some false) else (some true)) else (some false)))) = some r := h
 clear h
 replace H := Option.bind_eq_some_iff.mp H
 obtain ⟨⟨t124, t125⟩, A20, H⟩ := H
 dsimp only at H
 have A2 := Aside0.mk A20
 clear A20
 replace H := Option.bind_eq_some_iff.mp H
 obtain ⟨⟨t126, t127⟩, A30, H⟩ := H
 dsimp only at H
 have A3 := Aside0.mk A30
 clear A30
 by_cases c4 : t126 = t124
 rotate_left
 · exact dead_ (if_neg c4) H hr_
 rw [if_pos c4] at H
 have c4b0 : (t126 == t124) = true := beq_iff_eq.mpr c4
 have c4b1 : (t126 != t124) = false := bne_eq_false_iff_eq.mpr c4
 clear c4
 by_cases c5 : (t127 != t125) = true
 · exact dead_ (if_pos c5) H hr_
 rw [if_neg c5] at H
 have c5b0 : (t127 != t125) = false := by simpa using c5
 (try (have c5b1 : decide (t127 = t125) = true := by simpa using c5))
 (try (have c5b2 : (t127 == t125) = true := by simpa using c5))
 clear c5
 obtain rfl := Option.some.inj H
 go_enter Tryd.func8, Tryd.ntmps8
 go_wp2_with (first | ((with_reducible refine gate_callee (f := 49) rfl ?_); refine goesL_ (some 9) rfl rfl Tryd.func49 (by kernel_rfl) rfl #[.int .i64 a0] rfl z1_1_ ?_; (with_reducible refine (spec_GreatestSameDigits.calls k a0 t124 t125 _ A2.out).mono ?_); rintro e w6 ⟨rfl, hb⟩; refine ⟨_, rfl, ?_⟩; have n0_ := Aside0.mk (below_step z1_0_ hb); clear HB; have HB := n0_; clear n0_; (try clear hb); (try clear hb2); (try clear hk); (try clear hi)) | ((with_reducible refine gate_callee (f := 50) rfl ?_); refine goesL_ (some 14) rfl rfl Tryd.func50 (by kernel_rfl) rfl #[.int .i64 a0] rfl z1_1_ ?_; (with_reducible refine (impl_GreatestSameDigits.calls k a0 t126 t127 _ ?side1 A3.out).mono ?_); (case side1 => exact Shelf.TabOk.below HT.out z1_0_); rintro e w7 ⟨rfl, hb⟩; refine ⟨_, rfl, ?_⟩; have n0_ := Aside0.mk (below_step z1_0_ hb); clear HB; have HB := n0_; clear n0_; (try clear hb); (try clear hb2); (try clear hk); (try clear hi)))
 go_ret
 exact ⟨by first | rfl | (simp [errW_none, errW_some] <;> rfl) | (simp [*, errW_none, errW_some] <;> rfl), by repeat (first | (with_reducible first | exact HB.out | apply below_alloc | apply pw_below_drewN | apply below_drew1) | exact HB.out)⟩

/-- THE ONE PURE STATEMENT of laws_FnExactGreatestSameDigits: yours. -/
def laws_FnExactGreatestSameDigits.Pure : Prop := ∀ (a0 : Int), (Lit.int .i64 a0).wf = true → ∃ k, laws_FnExactGreatestSameDigits.f k a0 = some true
theorem laws_FnExactGreatestSameDigits.walk (P : laws_FnExactGreatestSameDigits.Pure) (a0 : Int) (w : World) (hT : Shelf.TabOk w) (w0 : (Lit.int .i64 a0).wf = true) :
 Calls Tryd.prog 8 #[.int .i64 a0] w fun e w' => e = .returned (.bool true) ∧ Below w.heap.size w w' := by
 obtain ⟨k, h⟩ := P a0 w0
 refine (laws_FnExactGreatestSameDigits.calls k a0 true w hT (Aside0.mk rfl) h).mono ?_
 rintro e w' ⟨rfl, hd⟩
 exact ⟨rfl, hd⟩

end Go.Proofs.YtjhmocngcnnfdaaDoor.PFnExactGreatestSameDigits

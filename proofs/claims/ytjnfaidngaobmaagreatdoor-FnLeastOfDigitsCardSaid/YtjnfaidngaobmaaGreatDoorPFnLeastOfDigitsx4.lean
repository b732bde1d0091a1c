-- Laid by this session's program gprint.py over the kit's print.
import Derived.Test.YtjnfaidngaobmaaGreatDoorPFnLeastOfDigitsx0
import Derived.Test.YtjnfaidngaobmaaGreatDoorPFnLeastOfDigitsx1
import Derived.Test.YtjnfaidngaobmaaGreatDoorPFnLeastOfDigitsx2
import Derived.Test.YtjnfaidngaobmaaGreatDoorPFnLeastOfDigitsx3
namespace Go.Proofs.YtjnfaidngaobmaaGreatDoor.PFnLeastOfDigits
open Go.RowKit Go.Proofs.YtjnfaidngaobmaaGreatDoorW.PrintWords Go.Proofs.YtjnfaidngaobmaaGreatDoorW.PrintLast Go.Proofs.YtjnfaidngaobmaaGreatDoorW.PrintMore
attribute [local go_sem] max2_int min2_int max_two min_two max_three min_three max_four min_four   -- for this text's walks alone
set_option linter.unusedVariables false
set_option linter.unusedSimpArgs false
theorem z4_0_ {p : Prop} (h : p := by repeat (first | (with_reducible first | exact HB.out | apply below_alloc | apply pw_below_drewN | apply below_drew1) | exact HB.out)) : p := h
theorem z4_1_ {p : Prop} (h : p := by (try simp only [List.map_toArray, List.map_cons, List.map_nil]); first | done | rfl | (simp only [List.length_drop, List.length_take]; rfl)) : p := h
theorem z4_2_ {p : Prop} (h : p := by (with_reducible repeat (first | apply Kd.R_alloc | apply Kd.R_drewN | apply Kd.R_drew)); exact HO218.out) : p := h
theorem z4_3_ {p : Prop} (h : p := by first | (with_reducible assumption) | assumption) : p := h
theorem z4_4_ {p : Prop} (h : p := by first | rfl | (simp; done) | (simp [*]; done)) : p := h
theorem z4_5_ {p : Prop} (h : p := by (with_reducible repeat (first | apply Kd.R_alloc | apply Kd.R_drewN | apply Kd.R_drew)); exact HO_3.out) : p := h
theorem z4_6_ {p : Prop} (h : p := by (with_reducible repeat (first | apply Kd.R_alloc | apply Kd.R_drewN | apply Kd.R_drew)); exact HO204.out) : p := h

/-! ### spec_leList: function 40 -/
def spec_leList.l0 : Nat → Int → List Int → Option (List Int)
 | 0, _, _ => none
 | k + 1, x0, x3 => if x0 > 0 then ((some (([Int.tmod x0 10] : List Int) : List Int)).bind fun y194 => (if y194.length + x3.length < 17592186044416 then (spec_leList.l0 k (wrap64 (Int.tdiv x0 10)) (y194 ++ x3)) else (none))) else (some x3)
def spec_leList.f (k : Nat) (a0 : Int) : Option (List Int) := spec_leList.l0 k (wrap64 (Int.tdiv a0 10)) (([Int.tmod a0 10] : List Int))
theorem spec_leList.mono_l : ∀ k, (∀ y0 y1, LeO (spec_leList.l0 k y0 y1) (spec_leList.l0 (k + 1) y0 y1))
 | 0 => fun _ _ r h => by simp [spec_leList.l0] at h
 | k + 1 => by
  have ih0 := spec_leList.mono_l k
  intro y0 y1
  unfold spec_leList.l0
  repeat' first
  | (with_reducible exact ih0 _ _)
  | (with_reducible exact LeO.refl _)
  | (with_reducible exact LeO.none _)
  | (with_reducible refine LeO.ite ?_ ?_)
  | (with_reducible refine LeO.bind ?_ (fun _ => ?_))
  | exact ih0 _ _
  | exact LeO.none _
  | refine LeO.ite ?_ ?_
  | refine LeO.bind ?_ (fun _ => ?_)
theorem spec_leList.mono : ∀ a0 k, LeO (spec_leList.f k a0) (spec_leList.f (k + 1) a0) := by
 intro a0 k
 have ih0 := spec_leList.mono_l k
 unfold spec_leList.f
 repeat' first
  | (with_reducible exact ih0 _ _)
  | (with_reducible exact LeO.refl _)
  | (with_reducible exact LeO.none _)
  | (with_reducible refine LeO.ite ?_ ?_)
  | (with_reducible refine LeO.bind ?_ (fun _ => ?_))
  | exact ih0 _ _
  | exact LeO.none _
  | refine LeO.ite ?_ ?_
  | refine LeO.bind ?_ (fun _ => ?_)
set_option maxHeartbeats 8000000 in
set_option maxRecDepth 100000 in
theorem spec_leList.calls (k : Nat) (a0 : Int) (r : List Int) (w : World) (h : spec_leList.f k a0 = some r) :
 Calls Tryz.prog 40 #[.int .i64 a0] w fun e w' => ∃ v0_ : Value, e = .returned (v0_) ∧ Kd.R (Kd.int .i64) 3 w' w.heap.size (fun _ => True) v0_ r ∧ Below w.heap.size w w' := by
 have HB := Aside0.mk (Below.refl w.heap.size w)
 have H : (spec_leList.l0 k (wrap64 (Int.tdiv a0 10)) (([Int.tmod a0 10] : List Int))) = some r := h
 clear h
 obtain ⟨y191, hy191⟩ : ∃ y_ : List Int, y_ = (([Int.tmod a0 10] : List Int)) := ⟨_, rfl⟩
 replace H : (spec_leList.l0 k (wrap64 (Int.tdiv a0 10)) y191) = some r := by first | (rw [hy191]; with_reducible exact H) | (have H2_ := (Option.bind_some _ _).symm.trans H; rw [hy191]; with_reducible exact H2_) | (have H2_ := (Option.bind_some _ _).symm.trans H; with_reducible exact H2_) | with_reducible exact H | (rw [hy191]; exact H) | exact H
 have Ny191 := Aside0.mk hy191
 clear hy191
 have H' := Aside0.mk H
 clear H
 go_enter Tryz.func40, Tryz.ntmps40
 go_wp2_with (first | ((with_reducible refine gate_dst (N := 6) rfl ?_); refine Kd.R_lit (Kd.int .i64) _ 3 ?hg (N := 6) ?hd (xs := ([Int.tmod a0 10] : List Int)) (inner := [.int .i64 (Int.tmod a0 10)]) (ok := fun _ => True) (okp := fun _ => True) ?hr ?hp (fun _ hk => hk) trivial (Below.refl _ _) (Nat.le_refl _) (by simp) ?_; (case hd => rfl); (case hg => rfl); (case hr => first | (go_simp; done) | (go_simp; rfl)); (case hp => exact (Reps.one (show Kd.M (Kd.int .i64) _ _ _ (Int.tmod a0 10) [.int .i64 (Int.tmod a0 10)] from rfl) (Reps.none _ _))); intro v192 w2 ho3 hb hg_ hnew_; clear hg_ hnew_; (first | rw [← Ny191.out] at ho3 | (simp only [Int.reduceToNat] at ho3; rw [← Ny191.out] at ho3)); have n0_ := Aside0.mk (Kd.R_lower ho3 (below_size z4_0_)); have n1_ := Aside0.mk (below_step z4_0_ hb); clear HB; have HO193 := n0_; have HB := n1_; clear n0_ n1_; clear hb ho3))
 go_loopg [0, 3] k (fun kq v0 v3 w' => ∃ (x0_1 : Int) (x3_1 : List Int), v0 = .int .i64 x0_1 ∧ Aside0 (spec_leList.l0 kq x0_1 x3_1 = some r) ∧ Aside0 (kq ≤ k) ∧ Aside0 (Kd.R (Kd.int .i64) 3 w' w.heap.size (fun _ => True) v3 x3_1) ∧ Aside0 (Below w.heap.size w w'))
 case atStart => exact ⟨(wrap64 (Int.tdiv a0 10)), (y191), z4_4_, H', ⟨Nat.le_refl _⟩, ⟨by (with_reducible repeat (first | apply Kd.R_alloc | apply Kd.R_drewN | apply Kd.R_drew)); exact HO193.out⟩, ⟨by repeat (first | (with_reducible first | exact HB.out | apply below_alloc | apply pw_below_drewN | apply below_drew1) | exact HB.out)⟩⟩
 case round =>
  clear H'
  try clear p2
  obtain ⟨x0_1, x3_1, rfl, HA, HK1, HO_3, HB⟩ := hrel
  cases gk with
  | zero => exact absurd HA.out (by simp [spec_leList.l0])
  | succ k1 =>
   have H := HA.out
   clear HA
   simp only [spec_leList.l0] at H
   by_cases c4 : x0_1 > 0
   · rw [if_pos c4] at H
     have c4b0 : decide (0 < x0_1) = true := decide_eq_true c4
     clear c4
     obtain ⟨y194, hy194⟩ : ∃ y_ : List Int, y_ = (([Int.tmod x0_1 10] : List Int)) := ⟨_, rfl⟩
     replace H : (if y194.length + x3_1.length < 17592186044416 then (spec_leList.l0 k1 (wrap64 (Int.tdiv x0_1 10)) (y194 ++ x3_1)) else (none)) = some r := by first | (rw [hy194]; with_reducible exact H) | (have H2_ := (Option.bind_some _ _).symm.trans H; rw [hy194]; with_reducible exact H2_) | (have H2_ := (Option.bind_some _ _).symm.trans H; with_reducible exact H2_) | with_reducible exact H | (rw [hy194]; exact H) | exact H
     have Ny194 := Aside0.mk hy194
     clear hy194
     by_cases c5 : y194.length + x3_1.length < 17592186044416
     rotate_left
     · exact none_ (if_neg c5) H
     rw [if_pos c5] at H
     have LMc5 := Aside0.mk c5
     clear c5
     obtain ⟨y197, hy197⟩ : ∃ y_ : List Int, y_ = (y194 ++ x3_1) := ⟨_, rfl⟩
     replace H : (spec_leList.l0 k1 (wrap64 (Int.tdiv x0_1 10)) y197) = some r := by first | (rw [hy197]; with_reducible exact H) | (have H2_ := (Option.bind_some _ _).symm.trans H; rw [hy197]; with_reducible exact H2_) | (have H2_ := (Option.bind_some _ _).symm.trans H; with_reducible exact H2_) | with_reducible exact H | (rw [hy197]; exact H) | exact H
     have Ny197 := Aside0.mk hy197
     clear hy197
     have H' := Aside0.mk H
     clear H
     go_wp2_with (first | ((with_reducible refine gate_dst (N := 15) rfl ?_); refine Kd.R_lit (Kd.int .i64) _ 3 ?hg (N := 15) ?hd (xs := ([Int.tmod x0_1 10] : List Int)) (inner := [.int .i64 (Int.tmod x0_1 10)]) (ok := fun _ => True) (okp := fun _ => True) ?hr ?hp (fun _ hk => hk) trivial (Below.refl _ _) (Nat.le_refl _) (by simp) ?_; (case hd => rfl); (case hg => rfl); (case hr => first | (go_simp; done) | (go_simp; rfl)); (case hp => exact (Reps.one (show Kd.M (Kd.int .i64) _ _ _ (Int.tmod x0_1 10) [.int .i64 (Int.tmod x0_1 10)] from rfl) (Reps.none _ _))); intro v195 w6 ho7 hb hg_ hnew_; clear hg_ hnew_; (first | rw [← Ny194.out] at ho7 | (simp only [Int.reduceToNat] at ho7; rw [← Ny194.out] at ho7)); have n0_ := Aside0.mk (Kd.R_elder' z4_5_ (Kd.R_base ho7) hb); have n1_ := Aside0.mk (Kd.R_lower (Kd.R_new' ho7 (Kd.R_lt z4_5_)) (below_size z4_0_)); have n2_ := Aside0.mk (below_step z4_0_ hb); clear HO_3; clear HB; have HO_3 := n0_; have HO196 := n1_; have HB := n2_; clear n0_ n1_ n2_; clear hb ho7; obtain ⟨Ao9, co9, eo9⟩ := Kd.R_slice HO_3.out; subst eo9) | ((with_reducible refine gate_builtin (b := .append) (xs := #[.tmp 15, .tmp 16]) rfl ?_); at_builtin; refine Kd.R_append_rows (Kd.int .i64) (w0 := w) w.heap.size rfl (.tmp 15) (.tmp 16) 41 3 (.int .i64 0) 8 rfl Tryz.underlying41 info3 rfl (by decide) (by omega) v195 y194 x3_1 _ _ _ (fun k_ => some k_ ≠ (.slice Ao9 x3_1.length co9 : Value).ownBlock) (fun _ => False) rfl rfl ?aO ?aR (fun _ _ h => h) (fun _ h => h.elim) ?aF ?aB ?aS ?aL ?_; (case aR => repeat (first | exact (Kd.R_reads' HO_3.out).2.2 | (with_reducible refine Kd.C_alloc ?_ _) | (with_reducible refine Kd.C_drewN ?_ _) | (with_reducible refine Kd.C_drew ?_))); (case aB => exact z4_0_); (case aF => exact (fun k_ hk => Kd.fresh' (Kd.R_lt z4_5_) k_ hk)); (case aO => exact (by (with_reducible repeat (first | apply Kd.R_alloc | apply Kd.R_drewN | apply Kd.R_drew)); exact Kd.R_mono HO196.out (fun _ hk => hk.2))); (case aS => exact (below_size z4_0_)); (case aL => have := LMc5.out; omega); intro v198 w8 ho hb hg hat; rw [← Ny197.out] at ho; have n0_ := Aside0.mk (Kd.R_after (ok := (fun _ => True)) z4_5_ hg hat); have n1_ := Aside0.mk (hb); have n2_ := Aside0.mk (ho); clear HO_3; clear HB; clear HO196; have HO_3 := n0_; have HB := n1_; have HO199 := n2_; clear n0_ n1_ n2_; clear ho hb hg hat))
     go_roundg k1
     case measure => have := HK1.out; omega
     case rel => exact ⟨(wrap64 (Int.tdiv x0_1 10)), (y197), z4_4_, H', ⟨by have := HK1.out; omega⟩, ⟨by (with_reducible repeat (first | apply Kd.R_alloc | apply Kd.R_drewN | apply Kd.R_drew)); exact Kd.R_mono HO199.out (fun _ hk => trivial)⟩, ⟨by repeat (first | (with_reducible first | exact HB.out | apply below_alloc | apply pw_below_drewN | apply below_drew1) | exact HB.out)⟩⟩
   rw [if_neg c4] at H
   have c4b0 : decide (0 < x0_1) = false := decide_eq_false c4
   clear c4
   obtain rfl := Option.some.inj H
   go_wp2
   go_ret
   exact ⟨_, by first | rfl | (simp [errW_none, errW_some] <;> rfl) | (simp [*, errW_none, errW_some] <;> rfl), by (with_reducible repeat (first | apply Kd.R_alloc | apply Kd.R_drewN | apply Kd.R_drew)); exact HO_3.out, by repeat (first | (with_reducible first | exact HB.out | apply below_alloc | apply pw_below_drewN | apply below_drew1) | exact HB.out)⟩

/-! ### spec_leOf: function 41 -/
def spec_leOf.l0 : Nat → Int → List Int → Int → Int → Option (Int)
 | 0, _, _, _, _ => none
 | k + 1, x3, x6, x7, x8 => if x8 < x7 then (if 0 ≤ x8 then (if x8 < (x6.length : Int) then (spec_leOf.l0 k (wrap64 ((wrap64 (10 * x3)) + (rd x6 x8))) x6 x7 (wrap64 (x8 + 1))) else (none)) else (none)) else (some x3)
def spec_leOf.f (k : Nat) (l0 : List Int) : Option (Int) := spec_leOf.l0 k 0 l0 (l0.length : Int) 0
theorem spec_leOf.mono_l : ∀ k, (∀ y0 y1 y2 y3, LeO (spec_leOf.l0 k y0 y1 y2 y3) (spec_leOf.l0 (k + 1) y0 y1 y2 y3))
 | 0 => fun _ _ _ _ r h => by simp [spec_leOf.l0] at h
 | k + 1 => by
  have ih0 := spec_leOf.mono_l k
  intro y0 y1 y2 y3
  unfold spec_leOf.l0
  repeat' first
  | (with_reducible exact ih0 _ _ _ _)
  | (with_reducible exact LeO.refl _)
  | (with_reducible exact LeO.none _)
  | (with_reducible refine LeO.ite ?_ ?_)
  | (with_reducible refine LeO.bind ?_ (fun _ => ?_))
  | exact ih0 _ _ _ _
  | exact LeO.none _
  | refine LeO.ite ?_ ?_
  | refine LeO.bind ?_ (fun _ => ?_)
theorem spec_leOf.mono : ∀ a0 k, LeO (spec_leOf.f k a0) (spec_leOf.f (k + 1) a0) := by
 intro a0 k
 have ih0 := spec_leOf.mono_l k
 unfold spec_leOf.f
 repeat' first
  | (with_reducible exact ih0 _ _ _ _)
  | (with_reducible exact LeO.refl _)
  | (with_reducible exact LeO.none _)
  | (with_reducible refine LeO.ite ?_ ?_)
  | (with_reducible refine LeO.bind ?_ (fun _ => ?_))
  | exact ih0 _ _ _ _
  | exact LeO.none _
  | refine LeO.ite ?_ ?_
  | refine LeO.bind ?_ (fun _ => ?_)
set_option maxHeartbeats 8000000 in
set_option maxRecDepth 100000 in
theorem spec_leOf.calls (k : Nat) (A0 : Option Addr) (c0 : Nat) (l0 : List Int) (r : Int) (w : World) (hr0 : Kd.C (Kd.int .i64) w A0 l0.length l0) (hc0 : l0.length ≤ c0) (h : spec_leOf.f k l0 = some r) :
 Calls Tryz.prog 41 #[.slice A0 l0.length c0] w fun e w' => e = .returned (.int .i64 r) ∧ Drawn0 w w' := by
 have HR0 := Aside0.mk hr0
 have HC0 := Aside0.mk hc0
 clear hr0 hc0
 have H : (spec_leOf.l0 k 0 l0 (l0.length : Int) 0) = some r := h
 clear h
 have H' := Aside0.mk H
 clear H
 go_enter Tryz.func41, Tryz.ntmps41
 go_wp2
 go_loopg [3, 8] k (fun kq v3 v8 w' => ∃ (x3_1 : Int) (x8_1 : Int), v3 = .int .i64 x3_1 ∧ v8 = .int .i64 x8_1 ∧ Aside0 (spec_leOf.l0 kq x3_1 l0 (l0.length : Int) x8_1 = some r) ∧ Aside0 (kq ≤ k) ∧ Drawn0 w w')
 case atStart => exact ⟨(0), (0), z4_4_, z4_4_, H', ⟨Nat.le_refl _⟩, by repeat (first | exact Drawn0.refl _ | apply Drawn0.step)⟩
 case round =>
  clear H'
  obtain ⟨x3_1, x8_1, rfl, rfl, HA, HK1, ⟨m1, rfl⟩⟩ := hrel
  cases gk with
  | zero => exact absurd HA.out (by simp [spec_leOf.l0])
  | succ k1 =>
   have H := HA.out
   clear HA
   simp only [spec_leOf.l0] at H
   by_cases c2 : x8_1 < (l0.length : Int)
   · rw [if_pos c2] at H
     have c2b0 : decide (x8_1 < (l0.length : Int)) = true := decide_eq_true c2
     clear c2
     by_cases c3 : 0 ≤ x8_1
     rotate_left
     · exact none_ (if_neg c3) H
     rw [if_pos c3] at H
     have c3b0 : decide (0 ≤ x8_1) = true := decide_eq_true c3
     clear c3
     by_cases c4 : x8_1 < (l0.length : Int)
     rotate_left
     · exact none_ (if_neg c4) H
     rw [if_pos c4] at H
     have c4b0 : decide (x8_1 < (l0.length : Int)) = true := decide_eq_true c4
     clear c4
     have H' := Aside0.mk H
     clear H
     have p200 : 0 ≤ (x8_1 : Int) := of_decide_eq_true z4_3_
     have q200 : x8_1 < (l0.length : Int) := of_decide_eq_true z4_3_
     obtain ⟨ad200, e200, hx200_0⟩ := Kd.at_int HR0.out x8_1 p200 q200
     cases e200
     replace p200 := eq_true p200
     replace q200 := eq_true q200
     go_wp2
     go_roundg k1
     case measure => have := HK1.out; omega
     case rel => exact ⟨(wrap64 ((wrap64 (10 * x3_1)) + (rd l0 x8_1))), (wrap64 (x8_1 + 1)), z4_4_, z4_4_, H', ⟨by have := HK1.out; omega⟩, by repeat (first | exact Drawn0.refl _ | apply Drawn0.step)⟩
   rw [if_neg c2] at H
   have c2b0 : decide (x8_1 < (l0.length : Int)) = false := decide_eq_false c2
   clear c2
   obtain rfl := Option.some.inj H
   go_wp2
   go_ret
   exact ⟨by first | rfl | (simp; done) | (simp [*]; done), by repeat (first | exact Drawn0.refl _ | apply Drawn0.step)⟩

/-! ### spec_NextSameDigits: function 7 -/
def spec_NextSameDigits.f (k : Nat) (a0 : Int) : Option (Int × Bool) := (spec_leNumber.f a0).bind fun t201 => (if t201 = true then ((spec_leList.f k a0).bind fun t202 => ((spec_leTurn.f k t202 true).bind fun bt205 => (if bt205.2 = true then ((spec_leOf.f k bt205.1).bind fun t209 => (some (t209, true))) else (some (0, false))))) else (some (0, false)))
theorem spec_NextSameDigits.mono : ∀ a0 k, LeO (spec_NextSameDigits.f k a0) (spec_NextSameDigits.f (k + 1) a0) := by
 intro a0 k
 unfold spec_NextSameDigits.f
 repeat' first
  | (with_reducible exact spec_leList.mono _ _)
  | (with_reducible exact spec_leOf.mono _ _)
  | (with_reducible exact spec_leTurn.mono _ _ _)
  | (with_reducible exact LeO.refl _)
  | (with_reducible exact LeO.none _)
  | (with_reducible refine LeO.ite ?_ ?_)
  | (with_reducible refine LeO.bind ?_ (fun _ => ?_))
  | exact spec_leList.mono _ _
  | exact spec_leOf.mono _ _
  | exact spec_leTurn.mono _ _ _
  | exact LeO.none _
  | refine LeO.ite ?_ ?_
  | refine LeO.bind ?_ (fun _ => ?_)
set_option maxHeartbeats 8000000 in
set_option maxRecDepth 100000 in
theorem spec_NextSameDigits.calls (k : Nat) (a0 : Int) (r1 : Int) (r2 : Bool) (w : World) (h : spec_NextSameDigits.f k a0 = some (r1, r2)) :
 Calls Tryz.prog 7 #[.int .i64 a0] w fun e w' => e = .returned (.tuple #[.int .i64 r1, .bool r2]) ∧ Below w.heap.size w w' := by
 have HB := Aside0.mk (Below.refl w.heap.size w)
 have H : ((spec_leNumber.f a0).bind fun t201 => (if t201 = true then ((spec_leList.f k a0).bind fun t202 => ((spec_leTurn.f k t202 true).bind fun bt205 => (if bt205.2 = true then ((spec_leOf.f k bt205.1).bind fun t209 => (some (t209, true))) else (some (0, false))))) else (some (0, false)))) = some (r1, r2) := h
 clear h
 replace H := Option.bind_eq_some_iff.mp H
 obtain ⟨t201, A20, H⟩ := H
 have A2 := Aside0.mk A20
 clear A20
 by_cases c3 : t201 = true
 · subst c3
   have H1 : ((spec_leList.f k a0).bind fun t202 => ((spec_leTurn.f k t202 true).bind fun bt205 => (if bt205.2 = true then ((spec_leOf.f k bt205.1).bind fun t209 => (some (t209, true))) else (some (0, false))))) = some (r1, r2) := by rw [if_pos rfl] at H; exact H
   clear H
   have H := H1
   clear H1
   replace H := Option.bind_eq_some_iff.mp H
   obtain ⟨t202, A40, H⟩ := H
   have A4 := Aside0.mk A40
   clear A40
   replace H := Option.bind_eq_some_iff.mp H
   obtain ⟨⟨t205, t206⟩, A50, H⟩ := H
   dsimp only at H
   have A5 := Aside0.mk A50
   clear A50
   by_cases c6 : t206 = true
   · subst c6
     have H1 : ((spec_leOf.f k t205).bind fun t209 => (some (t209, true))) = some (r1, r2) := by rw [if_pos rfl] at H; exact H
     clear H
     have H := H1
     clear H1
     replace H := Option.bind_eq_some_iff.mp H
     obtain ⟨t209, A70, H⟩ := H
     have A7 := Aside0.mk A70
     clear A70
     simp only [Option.some.injEq, Prod.mk.injEq] at H
     obtain ⟨rfl, rfl⟩ := H
     go_enter Tryz.func7, Tryz.ntmps7
     go_wp2_with (first | ((with_reducible refine gate_callee (f := 38) rfl ?_); refine goesL_ (some 7) rfl rfl Tryz.func38 (by kernel_rfl) rfl #[.int .i64 a0] rfl z4_1_ ?_; (with_reducible refine (spec_leNumber.calls a0 true _ A2.out).mono ?_); rintro e w' ⟨rfl, ⟨nd, rfl⟩⟩; refine ⟨_, rfl, ?_⟩) | ((with_reducible refine gate_callee (f := 40) rfl ?_); refine goesL_ (some 11) rfl rfl Tryz.func40 (by kernel_rfl) rfl #[.int .i64 a0] rfl z4_1_ ?_; (with_reducible refine (spec_leList.calls k a0 t202 _ A4.out).mono ?_); rintro e w8 ⟨v203, rfl, ho0, hb⟩; refine ⟨_, rfl, ?_⟩; have n0_ := Aside0.mk (Kd.R_lower ho0 (below_size z4_0_)); have n1_ := Aside0.mk (below_step z4_0_ hb); clear HB; have HO204 := n0_; have HB := n1_; clear n0_ n1_; (try clear hb); (try clear hb2); (try clear hk); (try clear hi); (try clear ho0); obtain ⟨Ao9, co9, eo9⟩ := Kd.R_slice HO204.out; subst eo9) | ((with_reducible refine gate_callee (f := 39) rfl ?_); refine goesL_ (some 12) rfl rfl Tryz.func39 (by kernel_rfl) rfl #[.slice Ao9 t202.length co9, .bool true] rfl z4_1_ ?_; (with_reducible refine (spec_leTurn.calls k _ _ t202 true t205 true _ ?side1 ?side2 A5.out).mono ?_); (case side1 => repeat (first | exact (Kd.R_reads' HO204.out).2.2 | (with_reducible refine Kd.C_alloc ?_ _) | (with_reducible refine Kd.C_drewN ?_ _) | (with_reducible refine Kd.C_drew ?_))); (case side2 => exact (Kd.R_reads' HO204.out).2.1); rintro e w10 ⟨v207, rfl, ho0, hb⟩; refine ⟨_, rfl, ?_⟩; have n0_ := Aside0.mk (Kd.R_elder' z4_6_ (Kd.R_base ho0) hb); have n1_ := Aside0.mk (Kd.R_lower (Kd.R_new' ho0 (Kd.R_lt z4_6_)) (below_size z4_0_)); have n2_ := Aside0.mk (below_step z4_0_ hb); clear HO204; clear HB; have HO204 := n0_; have HO208 := n1_; have HB := n2_; clear n0_ n1_ n2_; (try clear hb); (try clear hb2); (try clear hk); (try clear hi); (try clear ho0); obtain ⟨Ao11, co11, eo11⟩ := Kd.R_slice HO208.out; subst eo11) | ((with_reducible refine gate_callee (f := 41) rfl ?_); refine goesL_ (some 18) rfl rfl Tryz.func41 (by kernel_rfl) rfl #[.slice Ao11 t205.length co11] rfl z4_1_ ?_; (with_reducible refine (spec_leOf.calls k _ _ t205 t209 _ ?side1 ?side2 A7.out).mono ?_); (case side1 => repeat (first | exact (Kd.R_reads' HO208.out).2.2 | (with_reducible refine Kd.C_alloc ?_ _) | (with_reducible refine Kd.C_drewN ?_ _) | (with_reducible refine Kd.C_drew ?_))); (case side2 => exact (Kd.R_reads' HO208.out).2.1); rintro e w' ⟨rfl, ⟨nd, rfl⟩⟩; refine ⟨_, rfl, ?_⟩))
     go_ret2
     exact ⟨by first | rfl | (simp [errW_none, errW_some] <;> rfl) | (simp [*, errW_none, errW_some] <;> rfl), by repeat (first | (with_reducible first | exact HB.out | apply below_alloc | apply pw_below_drewN | apply below_drew1) | exact HB.out)⟩
   replace c6 := Bool.eq_false_iff.mpr c6
   subst c6
   have H1 : (some (0, false)) = some (r1, r2) := by rw [if_neg (show ¬ (false = true) by decide)] at H; exact H
   clear H
   have H := H1
   clear H1
   simp only [Option.some.injEq, Prod.mk.injEq] at H
   obtain ⟨rfl, rfl⟩ := H
   go_enter Tryz.func7, Tryz.ntmps7
   go_wp2_with (first | ((with_reducible refine gate_callee (f := 38) rfl ?_); refine goesL_ (some 7) rfl rfl Tryz.func38 (by kernel_rfl) rfl #[.int .i64 a0] rfl z4_1_ ?_; (with_reducible refine (spec_leNumber.calls a0 true _ A2.out).mono ?_); rintro e w' ⟨rfl, ⟨nd, rfl⟩⟩; refine ⟨_, rfl, ?_⟩) | ((with_reducible refine gate_callee (f := 40) rfl ?_); refine goesL_ (some 11) rfl rfl Tryz.func40 (by kernel_rfl) rfl #[.int .i64 a0] rfl z4_1_ ?_; (with_reducible refine (spec_leList.calls k a0 t202 _ A4.out).mono ?_); rintro e w12 ⟨v203, rfl, ho0, hb⟩; refine ⟨_, rfl, ?_⟩; have n0_ := Aside0.mk (Kd.R_lower ho0 (below_size z4_0_)); have n1_ := Aside0.mk (below_step z4_0_ hb); clear HB; have HO204 := n0_; have HB := n1_; clear n0_ n1_; (try clear hb); (try clear hb2); (try clear hk); (try clear hi); (try clear ho0); obtain ⟨Ao13, co13, eo13⟩ := Kd.R_slice HO204.out; subst eo13) | ((with_reducible refine gate_callee (f := 39) rfl ?_); refine goesL_ (some 12) rfl rfl Tryz.func39 (by kernel_rfl) rfl #[.slice Ao13 t202.length co13, .bool true] rfl z4_1_ ?_; (with_reducible refine (spec_leTurn.calls k _ _ t202 true t205 false _ ?side1 ?side2 A5.out).mono ?_); (case side1 => repeat (first | exact (Kd.R_reads' HO204.out).2.2 | (with_reducible refine Kd.C_alloc ?_ _) | (with_reducible refine Kd.C_drewN ?_ _) | (with_reducible refine Kd.C_drew ?_))); (case side2 => exact (Kd.R_reads' HO204.out).2.1); rintro e w14 ⟨v207, rfl, ho0, hb⟩; refine ⟨_, rfl, ?_⟩; have n0_ := Aside0.mk (Kd.R_elder' z4_6_ (Kd.R_base ho0) hb); have n1_ := Aside0.mk (Kd.R_lower (Kd.R_new' ho0 (Kd.R_lt z4_6_)) (below_size z4_0_)); have n2_ := Aside0.mk (below_step z4_0_ hb); clear HO204; clear HB; have HO204 := n0_; have HO208 := n1_; have HB := n2_; clear n0_ n1_ n2_; (try clear hb); (try clear hb2); (try clear hk); (try clear hi); (try clear ho0)))
   go_ret2
   exact ⟨by first | rfl | (simp [errW_none, errW_some] <;> rfl) | (simp [*, errW_none, errW_some] <;> rfl), by repeat (first | (with_reducible first | exact HB.out | apply below_alloc | apply pw_below_drewN | apply below_drew1) | exact HB.out)⟩
 replace c3 := Bool.eq_false_iff.mpr c3
 subst c3
 have H1 : (some (0, false)) = some (r1, r2) := by rw [if_neg (show ¬ (false = true) by decide)] at H; exact H
 clear H
 have H := H1
 clear H1
 simp only [Option.some.injEq, Prod.mk.injEq] at H
 obtain ⟨rfl, rfl⟩ := H
 go_enter Tryz.func7, Tryz.ntmps7
 go_wp2_with (first | ((with_reducible refine gate_callee (f := 38) rfl ?_); refine goesL_ (some 7) rfl rfl Tryz.func38 (by kernel_rfl) rfl #[.int .i64 a0] rfl z4_1_ ?_; (with_reducible refine (spec_leNumber.calls a0 false _ A2.out).mono ?_); rintro e w' ⟨rfl, ⟨nd, rfl⟩⟩; refine ⟨_, rfl, ?_⟩))
 go_ret2
 exact ⟨by first | rfl | (simp [errW_none, errW_some] <;> rfl) | (simp [*, errW_none, errW_some] <;> rfl), by repeat (first | (with_reducible first | exact HB.out | apply below_alloc | apply pw_below_drewN | apply below_drew1) | exact HB.out)⟩

/-! ### impl_LastSameDigits: function 8 -/
def impl_LastSameDigits.f (k : Nat) (a0 : Int) : Option (Int × Bool) := (impl_isLeast.f a0).bind fun t210 => (if t210 = true then ((strconv_Itoa.f a0).bind fun t211 => ((impl_step.f t211 true).bind fun bt212 => (if bt212.2 = true then (if 0 < (bt212.1.size : Int) then (if (bt bt212.1 0) = 48 then (some (0, false)) else ((impl_numberOf.f k bt212.1).bind fun t214 => (some (t214, true)))) else (none)) else (some (0, false))))) else (some (0, false)))
theorem impl_LastSameDigits.mono : ∀ a0 k, LeO (impl_LastSameDigits.f k a0) (impl_LastSameDigits.f (k + 1) a0) := by
 intro a0 k
 unfold impl_LastSameDigits.f
 repeat' first
  | (with_reducible exact impl_numberOf.mono _ _)
  | (with_reducible exact LeO.refl _)
  | (with_reducible exact LeO.none _)
  | (with_reducible refine LeO.ite ?_ ?_)
  | (with_reducible refine LeO.bind ?_ (fun _ => ?_))
  | exact impl_numberOf.mono _ _
  | exact LeO.none _
  | refine LeO.ite ?_ ?_
  | refine LeO.bind ?_ (fun _ => ?_)
set_option maxHeartbeats 8000000 in
set_option maxRecDepth 100000 in
theorem impl_LastSameDigits.calls (k : Nat) (a0 : Int) (r1 : Int) (r2 : Bool) (w : World) (hT : Shelf.TabOk w) (h : impl_LastSameDigits.f k a0 = some (r1, r2)) :
 Calls Tryz.prog 8 #[.int .i64 a0] w fun e w' => e = .returned (.tuple #[.int .i64 r1, .bool r2]) ∧ Below w.heap.size w w' := by
 have HT := Aside0.mk hT
 clear hT
 have HB := Aside0.mk (Below.refl w.heap.size w)
 have H : ((impl_isLeast.f a0).bind fun t210 => (if t210 = true then ((strconv_Itoa.f a0).bind fun t211 => ((impl_step.f t211 true).bind fun bt212 => (if bt212.2 = true then (if 0 < (bt212.1.size : Int) then (if (bt bt212.1 0) = 48 then (some (0, false)) else ((impl_numberOf.f k bt212.1).bind fun t214 => (some (t214, true)))) else (none)) else (some (0, false))))) else (some (0, false)))) = some (r1, r2) := h
 clear h
 replace H := Option.bind_eq_some_iff.mp H
 obtain ⟨t210, A20, H⟩ := H
 have A2 := Aside0.mk A20
 clear A20
 by_cases c3 : t210 = true
 · subst c3
   have H1 : ((strconv_Itoa.f a0).bind fun t211 => ((impl_step.f t211 true).bind fun bt212 => (if bt212.2 = true then (if 0 < (bt212.1.size : Int) then (if (bt bt212.1 0) = 48 then (some (0, false)) else ((impl_numberOf.f k bt212.1).bind fun t214 => (some (t214, true)))) else (none)) else (some (0, false))))) = some (r1, r2) := by rw [if_pos rfl] at H; exact H
   clear H
   have H := H1
   clear H1
   replace H := Option.bind_eq_some_iff.mp H
   obtain ⟨t211, A40, H⟩ := H
   have A4 := Aside0.mk A40
   clear A40
   replace H := Option.bind_eq_some_iff.mp H
   obtain ⟨⟨t212, t213⟩, A50, H⟩ := H
   dsimp only at H
   have A5 := Aside0.mk A50
   clear A50
   by_cases c6 : t213 = true
   · subst c6
     have H1 : (if 0 < (t212.size : Int) then (if (bt t212 0) = 48 then (some (0, false)) else ((impl_numberOf.f k t212).bind fun t214 => (some (t214, true)))) else (none)) = some (r1, r2) := by rw [if_pos rfl] at H; exact H
     clear H
     have H := H1
     clear H1
     by_cases c7 : 0 < (t212.size : Int)
     rotate_left
     · exact none_ (if_neg c7) H
     rw [if_pos c7] at H
     have c7b0 : decide (0 < (t212.size : Int)) = true := decide_eq_true c7
     have c7b1 : decide (0 < t212.size) = true := decide_eq_true (by omega)
     clear c7
     by_cases c9 : (bt t212 0) = 48
     · rw [if_pos c9] at H
       have c9b0 : ((bt t212 0) == 48) = true := beq_iff_eq.mpr c9
       have c9b1 : ((bt t212 0) != 48) = false := bne_eq_false_iff_eq.mpr c9
       clear c9
       simp only [Option.some.injEq, Prod.mk.injEq] at H
       obtain ⟨rfl, rfl⟩ := H
       go_enter Tryz.func8, Tryz.ntmps8
       go_wp2_with (first | ((with_reducible refine gate_callee (f := 34) rfl ?_); refine goesL_ (some 7) rfl rfl Tryz.func34 (by kernel_rfl) rfl #[.int .i64 a0] rfl z4_1_ ?_; (with_reducible refine (impl_isLeast.calls a0 true _ A2.out).mono ?_); rintro e w' ⟨rfl, ⟨nd, rfl⟩⟩; refine ⟨_, rfl, ?_⟩) | ((with_reducible refine gate_callee (f := 36) rfl ?_); refine goesL_ (some 11) rfl rfl Tryz.func36 (by kernel_rfl) rfl #[.int .i64 a0] rfl z4_1_ ?_; (with_reducible refine (strconv_Itoa.calls a0 t211 _ ?side1 A4.out).mono ?_); (case side1 => exact Shelf.TabOk.below HT.out z4_0_); rintro e w10 ⟨rfl, hb⟩; refine ⟨_, rfl, ?_⟩; have n0_ := Aside0.mk (below_step z4_0_ hb); clear HB; have HB := n0_; clear n0_; (try clear hb); (try clear hb2); (try clear hk); (try clear hi)) | ((with_reducible refine gate_callee (f := 35) rfl ?_); refine goesL_ (some 12) rfl rfl Tryz.func35 (by kernel_rfl) rfl #[.string t211, .bool true] rfl z4_1_ ?_; (with_reducible refine (impl_step.calls t211 true t212 true _ A5.out).mono ?_); rintro e w11 ⟨rfl, hb⟩; refine ⟨_, rfl, ?_⟩; have n0_ := Aside0.mk (below_step z4_0_ hb); clear HB; have HB := n0_; clear n0_; (try clear hb); (try clear hb2); (try clear hk); (try clear hi); have p8 : 0 ≤ (0 : Int) := (by omega); have q8 : 0 < t212.size := (by have : (0 : Int) < (t212.size : Int) := of_decide_eq_true z4_3_; omega); have hx8 : ∀ h : 0 < t212.size, ((t212[0]'h).toNat : Int) = bt t212 0 := bt_at t212 0; clear p8; have qi8 : (0 < (t212.size : Int)) = True := eq_true (of_decide_eq_true z4_3_); replace q8 := eq_true q8))
       go_ret2
       exact ⟨by first | rfl | (simp [errW_none, errW_some] <;> rfl) | (simp [*, errW_none, errW_some] <;> rfl), by repeat (first | (with_reducible first | exact HB.out | apply below_alloc | apply pw_below_drewN | apply below_drew1) | exact HB.out)⟩
     rw [if_neg c9] at H
     have c9b0 : ((bt t212 0) == 48) = false := beq_eq_false_iff_ne.mpr c9
     have c9b1 : ((bt t212 0) != 48) = true := bne_iff_ne.mpr c9
     replace H := Option.bind_eq_some_iff.mp H
     obtain ⟨t214, A120, H⟩ := H
     have A12 := Aside0.mk A120
     clear A120
     simp only [Option.some.injEq, Prod.mk.injEq] at H
     obtain ⟨rfl, rfl⟩ := H
     go_enter Tryz.func8, Tryz.ntmps8
     go_wp2_with (first | ((with_reducible refine gate_callee (f := 34) rfl ?_); refine goesL_ (some 7) rfl rfl Tryz.func34 (by kernel_rfl) rfl #[.int .i64 a0] rfl z4_1_ ?_; (with_reducible refine (impl_isLeast.calls a0 true _ A2.out).mono ?_); rintro e w' ⟨rfl, ⟨nd, rfl⟩⟩; refine ⟨_, rfl, ?_⟩) | ((with_reducible refine gate_callee (f := 36) rfl ?_); refine goesL_ (some 11) rfl rfl Tryz.func36 (by kernel_rfl) rfl #[.int .i64 a0] rfl z4_1_ ?_; (with_reducible refine (strconv_Itoa.calls a0 t211 _ ?side1 A4.out).mono ?_); (case side1 => exact Shelf.TabOk.below HT.out z4_0_); rintro e w13 ⟨rfl, hb⟩; refine ⟨_, rfl, ?_⟩; have n0_ := Aside0.mk (below_step z4_0_ hb); clear HB; have HB := n0_; clear n0_; (try clear hb); (try clear hb2); (try clear hk); (try clear hi)) | ((with_reducible refine gate_callee (f := 35) rfl ?_); refine goesL_ (some 12) rfl rfl Tryz.func35 (by kernel_rfl) rfl #[.string t211, .bool true] rfl z4_1_ ?_; (with_reducible refine (impl_step.calls t211 true t212 true _ A5.out).mono ?_); rintro e w14 ⟨rfl, hb⟩; refine ⟨_, rfl, ?_⟩; have n0_ := Aside0.mk (below_step z4_0_ hb); clear HB; have HB := n0_; clear n0_; (try clear hb); (try clear hb2); (try clear hk); (try clear hi); have p8 : 0 ≤ (0 : Int) := (by omega); have q8 : 0 < t212.size := (by have : (0 : Int) < (t212.size : Int) := of_decide_eq_true z4_3_; omega); have hx8 : ∀ h : 0 < t212.size, ((t212[0]'h).toNat : Int) = bt t212 0 := bt_at t212 0; clear p8; have qi8 : (0 < (t212.size : Int)) = True := eq_true (of_decide_eq_true z4_3_); replace q8 := eq_true q8) | ((with_reducible refine gate_callee (f := 37) rfl ?_); refine goesL_ (some 23) rfl rfl Tryz.func37 (by kernel_rfl) rfl #[.string t212] rfl z4_1_ ?_; (with_reducible refine (impl_numberOf.calls k t212 t214 _ A12.out).mono ?_); rintro e w' ⟨rfl, ⟨nd, rfl⟩⟩; refine ⟨_, rfl, ?_⟩))
     go_ret2
     exact ⟨by first | rfl | (simp [errW_none, errW_some] <;> rfl) | (simp [*, errW_none, errW_some] <;> rfl), by repeat (first | (with_reducible first | exact HB.out | apply below_alloc | apply pw_below_drewN | apply below_drew1) | exact HB.out)⟩
   replace c6 := Bool.eq_false_iff.mpr c6
   subst c6
   have H1 : (some (0, false)) = some (r1, r2) := by rw [if_neg (show ¬ (false = true) by decide)] at H; exact H
   clear H
   have H := H1
   clear H1
   simp only [Option.some.injEq, Prod.mk.injEq] at H
   obtain ⟨rfl, rfl⟩ := H
   go_enter Tryz.func8, Tryz.ntmps8
   go_wp2_with (first | ((with_reducible refine gate_callee (f := 34) rfl ?_); refine goesL_ (some 7) rfl rfl Tryz.func34 (by kernel_rfl) rfl #[.int .i64 a0] rfl z4_1_ ?_; (with_reducible refine (impl_isLeast.calls a0 true _ A2.out).mono ?_); rintro e w' ⟨rfl, ⟨nd, rfl⟩⟩; refine ⟨_, rfl, ?_⟩) | ((with_reducible refine gate_callee (f := 36) rfl ?_); refine goesL_ (some 11) rfl rfl Tryz.func36 (by kernel_rfl) rfl #[.int .i64 a0] rfl z4_1_ ?_; (with_reducible refine (strconv_Itoa.calls a0 t211 _ ?side1 A4.out).mono ?_); (case side1 => exact Shelf.TabOk.below HT.out z4_0_); rintro e w15 ⟨rfl, hb⟩; refine ⟨_, rfl, ?_⟩; have n0_ := Aside0.mk (below_step z4_0_ hb); clear HB; have HB := n0_; clear n0_; (try clear hb); (try clear hb2); (try clear hk); (try clear hi)) | ((with_reducible refine gate_callee (f := 35) rfl ?_); refine goesL_ (some 12) rfl rfl Tryz.func35 (by kernel_rfl) rfl #[.string t211, .bool true] rfl z4_1_ ?_; (with_reducible refine (impl_step.calls t211 true t212 false _ A5.out).mono ?_); rintro e w16 ⟨rfl, hb⟩; refine ⟨_, rfl, ?_⟩; have n0_ := Aside0.mk (below_step z4_0_ hb); clear HB; have HB := n0_; clear n0_; (try clear hb); (try clear hb2); (try clear hk); (try clear hi)))
   go_ret2
   exact ⟨by first | rfl | (simp [errW_none, errW_some] <;> rfl) | (simp [*, errW_none, errW_some] <;> rfl), by repeat (first | (with_reducible first | exact HB.out | apply below_alloc | apply pw_below_drewN | apply below_drew1) | exact HB.out)⟩
 replace c3 := Bool.eq_false_iff.mpr c3
 subst c3
 have H1 : (some (0, false)) = some (r1, r2) := by rw [if_neg (show ¬ (false = true) by decide)] at H; exact H
 clear H
 have H := H1
 clear H1
 simp only [Option.some.injEq, Prod.mk.injEq] at H
 obtain ⟨rfl, rfl⟩ := H
 go_enter Tryz.func8, Tryz.ntmps8
 go_wp2_with (first | ((with_reducible refine gate_callee (f := 34) rfl ?_); refine goesL_ (some 7) rfl rfl Tryz.func34 (by kernel_rfl) rfl #[.int .i64 a0] rfl z4_1_ ?_; (with_reducible refine (impl_isLeast.calls a0 false _ A2.out).mono ?_); rintro e w' ⟨rfl, ⟨nd, rfl⟩⟩; refine ⟨_, rfl, ?_⟩))
 go_ret2
 exact ⟨by first | rfl | (simp [errW_none, errW_some] <;> rfl) | (simp [*, errW_none, errW_some] <;> rfl), by repeat (first | (with_reducible first | exact HB.out | apply below_alloc | apply pw_below_drewN | apply below_drew1) | exact HB.out)⟩

/-! ### spec_LastSameDigits: function 9 -/
def spec_LastSameDigits.f (k : Nat) (a0 : Int) : Option (Int × Bool) := (spec_leNumber.f a0).bind fun t215 => (if t215 = true then ((spec_leList.f k a0).bind fun t216 => ((spec_leTurn.f k t216 false).bind fun bt219 => (if bt219.2 = true then (if 0 < (bt219.1.length : Int) then (if (rd bt219.1 0) = 0 then (some (0, false)) else ((spec_leOf.f k bt219.1).bind fun t224 => (some (t224, true)))) else (none)) else (some (0, false))))) else (some (0, false)))
theorem spec_LastSameDigits.mono : ∀ a0 k, LeO (spec_LastSameDigits.f k a0) (spec_LastSameDigits.f (k + 1) a0) := by
 intro a0 k
 unfold spec_LastSameDigits.f
 repeat' first
  | (with_reducible exact spec_leList.mono _ _)
  | (with_reducible exact spec_leOf.mono _ _)
  | (with_reducible exact spec_leTurn.mono _ _ _)
  | (with_reducible exact LeO.refl _)
  | (with_reducible exact LeO.none _)
  | (with_reducible refine LeO.ite ?_ ?_)
  | (with_reducible refine LeO.bind ?_ (fun _ => ?_))
  | exact spec_leList.mono _ _
  | exact spec_leOf.mono _ _
  | exact spec_leTurn.mono _ _ _
  | exact LeO.none _
  | refine LeO.ite ?_ ?_
  | refine LeO.bind ?_ (fun _ => ?_)
set_option maxHeartbeats 8000000 in
set_option maxRecDepth 100000 in
theorem spec_LastSameDigits.calls (k : Nat) (a0 : Int) (r1 : Int) (r2 : Bool) (w : World) (h : spec_LastSameDigits.f k a0 = some (r1, r2)) :
 Calls Tryz.prog 9 #[.int .i64 a0] w fun e w' => e = .returned (.tuple #[.int .i64 r1, .bool r2]) ∧ Below w.heap.size w w' := by
 have HB := Aside0.mk (Below.refl w.heap.size w)
 have H : ((spec_leNumber.f a0).bind fun t215 => (if t215 = true then ((spec_leList.f k a0).bind fun t216 => ((spec_leTurn.f k t216 false).bind fun bt219 => (if bt219.2 = true then (if 0 < (bt219.1.length : Int) then (if (rd bt219.1 0) = 0 then (some (0, false)) else ((spec_leOf.f k bt219.1).bind fun t224 => (some (t224, true)))) else (none)) else (some (0, false))))) else (some (0, false)))) = some (r1, r2) := h
 clear h
 replace H := Option.bind_eq_some_iff.mp H
 obtain ⟨t215, A20, H⟩ := H
 have A2 := Aside0.mk A20
 clear A20
 by_cases c3 : t215 = true
 · subst c3
   have H1 : ((spec_leList.f k a0).bind fun t216 => ((spec_leTurn.f k t216 false).bind fun bt219 => (if bt219.2 = true then (if 0 < (bt219.1.length : Int) then (if (rd bt219.1 0) = 0 then (some (0, false)) else ((spec_leOf.f k bt219.1).bind fun t224 => (some (t224, true)))) else (none)) else (some (0, false))))) = some (r1, r2) := by rw [if_pos rfl] at H; exact H
   clear H
   have H := H1
   clear H1
   replace H := Option.bind_eq_some_iff.mp H
   obtain ⟨t216, A40, H⟩ := H
   have A4 := Aside0.mk A40
   clear A40
   replace H := Option.bind_eq_some_iff.mp H
   obtain ⟨⟨t219, t220⟩, A50, H⟩ := H
   dsimp only at H
   have A5 := Aside0.mk A50
   clear A50
   by_cases c6 : t220 = true
   · subst c6
     have H1 : (if 0 < (t219.length : Int) then (if (rd t219 0) = 0 then (some (0, false)) else ((spec_leOf.f k t219).bind fun t224 => (some (t224, true)))) else (none)) = some (r1, r2) := by rw [if_pos rfl] at H; exact H
     clear H
     have H := H1
     clear H1
     by_cases c7 : 0 < (t219.length : Int)
     rotate_left
     · exact none_ (if_neg c7) H
     rw [if_pos c7] at H
     have c7b0 : decide (0 < (t219.length : Int)) = true := decide_eq_true c7
     have c7b1 : decide (0 < t219.length) = true := decide_eq_true (by omega)
     clear c7
     by_cases c8 : (rd t219 0) = 0
     · rw [if_pos c8] at H
       have c8b0 : ((rd t219 0) == 0) = true := beq_iff_eq.mpr c8
       have c8b1 : ((rd t219 0) != 0) = false := bne_eq_false_iff_eq.mpr c8
       clear c8
       simp only [Option.some.injEq, Prod.mk.injEq] at H
       obtain ⟨rfl, rfl⟩ := H
       go_enter Tryz.func9, Tryz.ntmps9
       go_wp2_with (first | ((with_reducible refine gate_callee (f := 38) rfl ?_); refine goesL_ (some 7) rfl rfl Tryz.func38 (by kernel_rfl) rfl #[.int .i64 a0] rfl z4_1_ ?_; (with_reducible refine (spec_leNumber.calls a0 true _ A2.out).mono ?_); rintro e w' ⟨rfl, ⟨nd, rfl⟩⟩; refine ⟨_, rfl, ?_⟩) | ((with_reducible refine gate_callee (f := 40) rfl ?_); refine goesL_ (some 11) rfl rfl Tryz.func40 (by kernel_rfl) rfl #[.int .i64 a0] rfl z4_1_ ?_; (with_reducible refine (spec_leList.calls k a0 t216 _ A4.out).mono ?_); rintro e w9 ⟨v217, rfl, ho0, hb⟩; refine ⟨_, rfl, ?_⟩; have n0_ := Aside0.mk (Kd.R_lower ho0 (below_size z4_0_)); have n1_ := Aside0.mk (below_step z4_0_ hb); clear HB; have HO218 := n0_; have HB := n1_; clear n0_ n1_; (try clear hb); (try clear hb2); (try clear hk); (try clear hi); (try clear ho0); obtain ⟨Ao10, co10, eo10⟩ := Kd.R_slice HO218.out; subst eo10) | ((with_reducible refine gate_callee (f := 39) rfl ?_); refine goesL_ (some 12) rfl rfl Tryz.func39 (by kernel_rfl) rfl #[.slice Ao10 t216.length co10, .bool false] rfl z4_1_ ?_; (with_reducible refine (spec_leTurn.calls k _ _ t216 false t219 true _ ?side1 ?side2 A5.out).mono ?_); (case side1 => repeat (first | exact (Kd.R_reads' HO218.out).2.2 | (with_reducible refine Kd.C_alloc ?_ _) | (with_reducible refine Kd.C_drewN ?_ _) | (with_reducible refine Kd.C_drew ?_))); (case side2 => exact (Kd.R_reads' HO218.out).2.1); rintro e w11 ⟨v221, rfl, ho0, hb⟩; refine ⟨_, rfl, ?_⟩; have n0_ := Aside0.mk (Kd.R_elder' z4_2_ (Kd.R_base ho0) hb); have n1_ := Aside0.mk (Kd.R_lower (Kd.R_new' ho0 (Kd.R_lt z4_2_)) (below_size z4_0_)); have n2_ := Aside0.mk (below_step z4_0_ hb); clear HO218; clear HB; have HO218 := n0_; have HO222 := n1_; have HB := n2_; clear n0_ n1_ n2_; (try clear hb); (try clear hb2); (try clear hk); (try clear hi); (try clear ho0); obtain ⟨Ao12, co12, eo12⟩ := Kd.R_slice HO222.out; subst eo12; have p223 : 0 ≤ (0 : Int) := (by omega); have q223 : 0 < (t219.length : Int) := of_decide_eq_true z4_3_; obtain ⟨ad223, e223, hx223_0⟩ := Kd.at_int (Kd.R_reads' HO222.out).2.2 0 p223 q223; cases e223; have qi223 : (0 < t219.length) = True := eq_true (by omega); (try rw [show ((0 : Int)).toNat = 0 from rfl] at hx223_0); (try rw [Addr.add_zero'] at hx223_0); replace p223 := eq_true p223; replace q223 := eq_true q223))
       go_ret2
       exact ⟨by first | rfl | (simp [errW_none, errW_some] <;> rfl) | (simp [*, errW_none, errW_some] <;> rfl), by repeat (first | (with_reducible first | exact HB.out | apply below_alloc | apply pw_below_drewN | apply below_drew1) | exact HB.out)⟩
     rw [if_neg c8] at H
     have c8b0 : ((rd t219 0) == 0) = false := beq_eq_false_iff_ne.mpr c8
     have c8b1 : ((rd t219 0) != 0) = true := bne_iff_ne.mpr c8
     replace H := Option.bind_eq_some_iff.mp H
     obtain ⟨t224, A130, H⟩ := H
     have A13 := Aside0.mk A130
     clear A130
     simp only [Option.some.injEq, Prod.mk.injEq] at H
     obtain ⟨rfl, rfl⟩ := H
     go_enter Tryz.func9, Tryz.ntmps9
     go_wp2_with (first | ((with_reducible refine gate_callee (f := 38) rfl ?_); refine goesL_ (some 7) rfl rfl Tryz.func38 (by kernel_rfl) rfl #[.int .i64 a0] rfl z4_1_ ?_; (with_reducible refine (spec_leNumber.calls a0 true _ A2.out).mono ?_); rintro e w' ⟨rfl, ⟨nd, rfl⟩⟩; refine ⟨_, rfl, ?_⟩) | ((with_reducible refine gate_callee (f := 40) rfl ?_); refine goesL_ (some 11) rfl rfl Tryz.func40 (by kernel_rfl) rfl #[.int .i64 a0] rfl z4_1_ ?_; (with_reducible refine (spec_leList.calls k a0 t216 _ A4.out).mono ?_); rintro e w14 ⟨v217, rfl, ho0, hb⟩; refine ⟨_, rfl, ?_⟩; have n0_ := Aside0.mk (Kd.R_lower ho0 (below_size z4_0_)); have n1_ := Aside0.mk (below_step z4_0_ hb); clear HB; have HO218 := n0_; have HB := n1_; clear n0_ n1_; (try clear hb); (try clear hb2); (try clear hk); (try clear hi); (try clear ho0); obtain ⟨Ao15, co15, eo15⟩ := Kd.R_slice HO218.out; subst eo15) | ((with_reducible refine gate_callee (f := 39) rfl ?_); refine goesL_ (some 12) rfl rfl Tryz.func39 (by kernel_rfl) rfl #[.slice Ao15 t216.length co15, .bool false] rfl z4_1_ ?_; (with_reducible refine (spec_leTurn.calls k _ _ t216 false t219 true _ ?side1 ?side2 A5.out).mono ?_); (case side1 => repeat (first | exact (Kd.R_reads' HO218.out).2.2 | (with_reducible refine Kd.C_alloc ?_ _) | (with_reducible refine Kd.C_drewN ?_ _) | (with_reducible refine Kd.C_drew ?_))); (case side2 => exact (Kd.R_reads' HO218.out).2.1); rintro e w16 ⟨v221, rfl, ho0, hb⟩; refine ⟨_, rfl, ?_⟩; have n0_ := Aside0.mk (Kd.R_elder' z4_2_ (Kd.R_base ho0) hb); have n1_ := Aside0.mk (Kd.R_lower (Kd.R_new' ho0 (Kd.R_lt z4_2_)) (below_size z4_0_)); have n2_ := Aside0.mk (below_step z4_0_ hb); clear HO218; clear HB; have HO218 := n0_; have HO222 := n1_; have HB := n2_; clear n0_ n1_ n2_; (try clear hb); (try clear hb2); (try clear hk); (try clear hi); (try clear ho0); obtain ⟨Ao17, co17, eo17⟩ := Kd.R_slice HO222.out; subst eo17; have p223 : 0 ≤ (0 : Int) := (by omega); have q223 : 0 < (t219.length : Int) := of_decide_eq_true z4_3_; obtain ⟨ad223, e223, hx223_0⟩ := Kd.at_int (Kd.R_reads' HO222.out).2.2 0 p223 q223; cases e223; have qi223 : (0 < t219.length) = True := eq_true (by omega); (try rw [show ((0 : Int)).toNat = 0 from rfl] at hx223_0); (try rw [Addr.add_zero'] at hx223_0); replace p223 := eq_true p223; replace q223 := eq_true q223) | ((with_reducible refine gate_callee (f := 41) rfl ?_); refine goesL_ (some 24) rfl rfl Tryz.func41 (by kernel_rfl) rfl #[.slice (some ad223) t219.length co17] rfl z4_1_ ?_; (with_reducible refine (spec_leOf.calls k _ _ t219 t224 _ ?side1 ?side2 A13.out).mono ?_); (case side1 => repeat (first | exact (Kd.R_reads' HO222.out).2.2 | (with_reducible refine Kd.C_alloc ?_ _) | (with_reducible refine Kd.C_drewN ?_ _) | (with_reducible refine Kd.C_drew ?_))); (case side2 => exact (Kd.R_reads' HO222.out).2.1); rintro e w' ⟨rfl, ⟨nd, rfl⟩⟩; refine ⟨_, rfl, ?_⟩))
     go_ret2
     exact ⟨by first | rfl | (simp [errW_none, errW_some] <;> rfl) | (simp [*, errW_none, errW_some] <;> rfl), by repeat (first | (with_reducible first | exact HB.out | apply below_alloc | apply pw_below_drewN | apply below_drew1) | exact HB.out)⟩
   replace c6 := Bool.eq_false_iff.mpr c6
   subst c6
   have H1 : (some (0, false)) = some (r1, r2) := by rw [if_neg (show ¬ (false = true) by decide)] at H; exact H
   clear H
   have H := H1
   clear H1
   simp only [Option.some.injEq, Prod.mk.injEq] at H
   obtain ⟨rfl, rfl⟩ := H
   go_enter Tryz.func9, Tryz.ntmps9
   go_wp2_with (first | ((with_reducible refine gate_callee (f := 38) rfl ?_); refine goesL_ (some 7) rfl rfl Tryz.func38 (by kernel_rfl) rfl #[.int .i64 a0] rfl z4_1_ ?_; (with_reducible refine (spec_leNumber.calls a0 true _ A2.out).mono ?_); rintro e w' ⟨rfl, ⟨nd, rfl⟩⟩; refine ⟨_, rfl, ?_⟩) | ((with_reducible refine gate_callee (f := 40) rfl ?_); refine goesL_ (some 11) rfl rfl Tryz.func40 (by kernel_rfl) rfl #[.int .i64 a0] rfl z4_1_ ?_; (with_reducible refine (spec_leList.calls k a0 t216 _ A4.out).mono ?_); rintro e w18 ⟨v217, rfl, ho0, hb⟩; refine ⟨_, rfl, ?_⟩; have n0_ := Aside0.mk (Kd.R_lower ho0 (below_size z4_0_)); have n1_ := Aside0.mk (below_step z4_0_ hb); clear HB; have HO218 := n0_; have HB := n1_; clear n0_ n1_; (try clear hb); (try clear hb2); (try clear hk); (try clear hi); (try clear ho0); obtain ⟨Ao19, co19, eo19⟩ := Kd.R_slice HO218.out; subst eo19) | ((with_reducible refine gate_callee (f := 39) rfl ?_); refine goesL_ (some 12) rfl rfl Tryz.func39 (by kernel_rfl) rfl #[.slice Ao19 t216.length co19, .bool false] rfl z4_1_ ?_; (with_reducible refine (spec_leTurn.calls k _ _ t216 false t219 false _ ?side1 ?side2 A5.out).mono ?_); (case side1 => repeat (first | exact (Kd.R_reads' HO218.out).2.2 | (with_reducible refine Kd.C_alloc ?_ _) | (with_reducible refine Kd.C_drewN ?_ _) | (with_reducible refine Kd.C_drew ?_))); (case side2 => exact (Kd.R_reads' HO218.out).2.1); rintro e w20 ⟨v221, rfl, ho0, hb⟩; refine ⟨_, rfl, ?_⟩; have n0_ := Aside0.mk (Kd.R_elder' z4_2_ (Kd.R_base ho0) hb); have n1_ := Aside0.mk (Kd.R_lower (Kd.R_new' ho0 (Kd.R_lt z4_2_)) (below_size z4_0_)); have n2_ := Aside0.mk (below_step z4_0_ hb); clear HO218; clear HB; have HO218 := n0_; have HO222 := n1_; have HB := n2_; clear n0_ n1_ n2_; (try clear hb); (try clear hb2); (try clear hk); (try clear hi); (try clear ho0)))
   go_ret2
   exact ⟨by first | rfl | (simp [errW_none, errW_some] <;> rfl) | (simp [*, errW_none, errW_some] <;> rfl), by repeat (first | (with_reducible first | exact HB.out | apply below_alloc | apply pw_below_drewN | apply below_drew1) | exact HB.out)⟩
 replace c3 := Bool.eq_false_iff.mpr c3
 subst c3
 have H1 : (some (0, false)) = some (r1, r2) := by rw [if_neg (show ¬ (false = true) by decide)] at H; exact H
 clear H
 have H := H1
 clear H1
 simp only [Option.some.injEq, Prod.mk.injEq] at H
 obtain ⟨rfl, rfl⟩ := H
 go_enter Tryz.func9, Tryz.ntmps9
 go_wp2_with (first | ((with_reducible refine gate_callee (f := 38) rfl ?_); refine goesL_ (some 7) rfl rfl Tryz.func38 (by kernel_rfl) rfl #[.int .i64 a0] rfl z4_1_ ?_; (with_reducible refine (spec_leNumber.calls a0 false _ A2.out).mono ?_); rintro e w' ⟨rfl, ⟨nd, rfl⟩⟩; refine ⟨_, rfl, ?_⟩))
 go_ret2
 exact ⟨by first | rfl | (simp [errW_none, errW_some] <;> rfl) | (simp [*, errW_none, errW_some] <;> rfl), by repeat (first | (with_reducible first | exact HB.out | apply below_alloc | apply pw_below_drewN | apply below_drew1) | exact HB.out)⟩

/-! ### impl_LeastSameDigits: function 10 -/
-- behind 34 36 37
def impl_LeastSameDigits.idx : List Int → Int → Int
 | [], _ => -1
 | x :: l, i => if x = 48 then impl_LeastSameDigits.idx l (i + 1) else i
def impl_LeastSameDigits.swap (l : List Int) : List Int := if 0 < impl_LeastSameDigits.idx l 0 then (l.set 0 (rd l (impl_LeastSameDigits.idx l 0))).set (impl_LeastSameDigits.idx l 0).toNat (rd l 0) else l
def impl_LeastSameDigits.f (k : Nat) (a0 : Int) : Option (Int × Bool) := (impl_isLeast.f a0).bind fun t => if t = true then (strconv_Itoa.f a0).bind fun s => (if s.size ≤ 64 then (impl_numberOf.f k (strOfNums (impl_LeastSameDigits.swap (SortB.sorted (bytesOf s))))).bind fun r => some (r, true) else none) else some (0, false)
theorem impl_LeastSameDigits.mono : ∀ a0 k, LeO (impl_LeastSameDigits.f k a0) (impl_LeastSameDigits.f (k + 1) a0) := by
 intro a0 k
 unfold impl_LeastSameDigits.f
 exact LeO.bind (LeO.refl _) (fun _ => LeO.ite (LeO.bind (LeO.refl _) (fun _ => LeO.ite (LeO.bind (impl_numberOf.mono _ _) (fun _ => LeO.refl _)) (LeO.refl _))) (LeO.refl _))
theorem impl_LeastSameDigits.idx_lt : ∀ (l : List Int) (i : Int), 0 ≤ i → impl_LeastSameDigits.idx l i = -1 ∨ (i ≤ impl_LeastSameDigits.idx l i ∧ impl_LeastSameDigits.idx l i < i + l.length)
 | [], _, _ => Or.inl rfl
 | x :: l, i, h => by
  unfold impl_LeastSameDigits.idx
  split
  · rcases impl_LeastSameDigits.idx_lt l (i + 1) (by omega) with e | ⟨e1, e2⟩
    · exact Or.inl e
    exact Or.inr ⟨by omega, by simp only [List.length_cons]; omega⟩
  exact Or.inr ⟨Int.le_refl _, by simp only [List.length_cons]; omega⟩
theorem impl_LeastSameDigits.idx_drop (l : List Int) (j : Nat) (hj : j < l.length) : impl_LeastSameDigits.idx (l.drop j) (j : Int) = if rd l (j : Int) = 48 then impl_LeastSameDigits.idx (l.drop (j + 1)) ((j + 1 : Nat) : Int) else (j : Int) := by
 rw [List.drop_eq_getElem_cons hj]
 have e : rd l (j : Int) = l[j] := by unfold rd; rw [Int.toNat_natCast, List.getD_eq_getElem?_getD, List.getElem?_eq_getElem hj]; rfl
 rw [e]
 rfl
theorem impl_LeastSameDigits.succv_ (n : Nat) (h : n < 9223372036854775807) : Value.int .i64 (wrap64 ((n : Int) + 1)) = Value.int .i64 ((n + 1 : Nat) : Int) := by
 have : wrap64 ((n : Int) + 1) = ((n + 1 : Nat) : Int) := by simp [wrap64]; omega
 rw [this]
set_option maxHeartbeats 8000000 in
set_option maxRecDepth 100000 in
theorem impl_LeastSameDigits_1.calls (x : Int) (w : World) :
 Calls Tryz.prog 44 #[.int .u8 x] w fun e w' => e = .returned (.bool (x != 48)) ∧ w' = w := by
 go_enter Tryz.func44, Tryz.ntmps44
 go_wp2
 go_ret
 exact ⟨rfl, rfl⟩
set_option maxHeartbeats 8000000 in
set_option maxRecDepth 100000 in
theorem impl_LeastSameDigits.index (A : Option Addr) (n c : Nat) (xs : List Int) (w : World) (hn : n = xs.length) (hr : Kd.C (Kd.int .u8) w A n xs) (hm : xs.length ≤ 1000000) :
 Calls Tryz.prog 43 #[.slice A n c, .func (.func 44) #[] #[]] w fun e w' => e = .returned (.int .i64 (impl_LeastSameDigits.idx xs 0)) ∧ w' = w := by
 have HR := Aside0.mk hr
 have HM := Aside0.mk hm
 have HN := Aside0.mk hn
 have HA := Aside0.mk (show impl_LeastSameDigits.idx (xs.drop 0) ((0 : Nat) : Int) = impl_LeastSameDigits.idx xs 0 from rfl)
 clear hr hm hn
 go_enter Tryz.func43, Tryz.ntmps43
 go_wp2
 go_loopg [8] (xs.length + 1) (fun kq v8 w' => ∃ j : Nat, v8 = .int .i64 (j : Int) ∧ Aside0 (j + kq = xs.length + 1) ∧ Aside0 (impl_LeastSameDigits.idx (xs.drop j) (j : Int) = impl_LeastSameDigits.idx xs 0) ∧ w' = w)
 case atStart => exact ⟨0, rfl, ⟨by omega⟩, HA, rfl⟩
 case round =>
  clear HA
  obtain ⟨j, rfl, HJ, HA, rfl⟩ := hrel
  by_cases d : j < xs.length
  · obtain ⟨ad, e1, hx⟩ := Kd.at_int HR.out (j : Int) (by omega) (by have := HN.out; omega)
    cases e1
    simp only [Int.toNat_natCast] at hx
    have c1 : decide ((j : Int) < (n : Int)) = true := decide_eq_true (by have := HN.out; omega)
    have c2 : decide (j < n) = true := decide_eq_true (by have := HN.out; omega)
    have p1 : (0 ≤ (j : Int)) = True := eq_true (by omega)
    have q1 : ((j : Int) < (n : Int)) = True := eq_true (by have := HN.out; omega)
    have hi := impl_LeastSameDigits.idx_drop xs j d
    rw [HA.out] at hi
    have HD := Aside0.mk d
    clear d HA
    by_cases q : rd xs (j : Int) = 48
    · rw [if_pos q] at hi
      have HI := Aside0.mk hi
      have b1 : (rd xs (j : Int) != 48) = false := bne_eq_false_iff_eq.mpr q
      clear q hi
      go_wp2_with (first | (go_at_call 44; (with_reducible refine (impl_LeastSameDigits_1.calls _ _).mono ?_); rintro e w' ⟨rfl, rfl⟩))
      go_roundg (gk - 1)
      case measure => have := HJ.out; have := HD.out; omega
      case rel => exact ⟨j + 1, impl_LeastSameDigits.succv_ j (by have := HD.out; have := HM.out; omega), ⟨by have := HJ.out; have := HD.out; omega⟩, ⟨HI.out.symm⟩, rfl⟩
    rw [if_neg q] at hi
    have b1 : (rd xs (j : Int) != 48) = true := bne_iff_ne.mpr q
    have HI := Aside0.mk hi
    clear q hi
    go_wp2_with (first | (go_at_call 44; (with_reducible refine (impl_LeastSameDigits_1.calls _ _).mono ?_); rintro e w' ⟨rfl, rfl⟩))
    go_ret
    exact ⟨by rw [HI.out]; rfl, rfl⟩
  have c1 : decide ((j : Int) < (n : Int)) = false := decide_eq_false (by have := HN.out; omega)
  have c2 : decide (j < n) = false := decide_eq_false (by have := HN.out; omega)
  have hi : -1 = impl_LeastSameDigits.idx xs 0 := by
   have h := HA.out
   rw [List.drop_eq_nil_of_le (by omega)] at h
   exact h
  have HI := Aside0.mk hi
  clear hi
  go_wp2
  go_ret
  exact ⟨by rw [← HI.out]; rfl, rfl⟩
set_option maxHeartbeats 8000000 in
set_option maxRecDepth 100000 in
open Bytes in
theorem impl_LeastSameDigits.calls (k : Nat) (a0 : Int) (r1 : Int) (r2 : Bool) (w : World) (hT : Shelf.TabOk w) (h : impl_LeastSameDigits.f k a0 = some (r1, r2)) :
 Calls Tryz.prog 10 #[.int .i64 a0] w fun e w' => e = .returned (.tuple #[.int .i64 r1, .bool r2]) ∧ Below w.heap.size w w' := by
 have HT := Aside0.mk hT
 unfold impl_LeastSameDigits.f at h
 obtain ⟨t, ht, h⟩ := Option.bind_eq_some_iff.mp h
 have A1 := Aside0.mk ht
 clear hT ht
 cases t with
 | false =>
  rw [if_neg (by decide)] at h
  simp only [Option.some.injEq, Prod.mk.injEq] at h
  obtain ⟨rfl, rfl⟩ := h
  go_enter Tryz.func10, Tryz.ntmps10
  go_wp2_with (first | (go_at_call 34; (with_reducible refine (impl_isLeast.calls a0 false _ A1.out).mono ?_); rintro e w' ⟨rfl, ⟨nd, rfl⟩⟩))
  go_ret2
  exact ⟨rfl, by repeat (first | exact Below.refl _ _ | apply pw_below_drewN | apply below_drew1)⟩
 | true =>
  rw [if_pos rfl] at h
  obtain ⟨s, hs, h⟩ := Option.bind_eq_some_iff.mp h
  by_cases hz : s.size ≤ 64
  rotate_left
  · exact none_ (if_neg hz) h
  rw [if_pos hz] at h
  obtain ⟨q, hq, h⟩ := Option.bind_eq_some_iff.mp h
  simp only [Option.some.injEq, Prod.mk.injEq] at h
  obtain ⟨rfl, rfl⟩ := h
  have hbl : (bytesOf s).length = s.size := (bytes_reads w 5 s (by omega)).1
  obtain ⟨ys, hys⟩ : ∃ ys, ys = SortB.sorted (bytesOf s) := ⟨_, rfl⟩
  have hyl : ys.length = s.size := by rw [hys, SortB.sorted_length, hbl]
  rw [← hys] at hq
  obtain ⟨ix, hix⟩ : ∃ ix, ix = impl_LeastSameDigits.idx ys 0 := ⟨_, rfl⟩
  have hlt := impl_LeastSameDigits.idx_lt ys 0 (Int.le_refl 0)
  rw [← hix] at hlt
  have hsw : impl_LeastSameDigits.swap ys = if 0 < ix then (ys.set 0 (rd ys ix)).set ix.toNat (rd ys 0) else ys := by rw [hix]; rfl
  rw [hsw] at hq
  have HIX := Aside0.mk hix
  have HLT := Aside0.mk hlt
  have HS := Aside0.mk hs
  have HZ := Aside0.mk hz
  have HBL := Aside0.mk hbl
  have HYS := Aside0.mk hys
  have HYL := Aside0.mk hyl
  clear hs hz hbl hys hyl hix hlt hsw
  by_cases c : 0 < ix
  · rw [if_pos c] at hq
    have HQ := Aside0.mk hq
    have c1 : decide (0 < ix) = true := decide_eq_true c
    have c2 : decide (ix > 0) = true := decide_eq_true c
    have HC := Aside0.mk c
    clear hq c
    go_enter Tryz.func10, Tryz.ntmps10
    go_wp2_with (first | (go_at_call 34; (with_reducible refine (impl_isLeast.calls a0 true _ A1.out).mono ?_); rintro e w' ⟨rfl, ⟨nd, rfl⟩⟩) | (go_at_call 36; (with_reducible refine (strconv_Itoa.calls a0 s _ (Shelf.TabOk.below HT.out (by repeat (first | exact Below.refl _ _ | apply pw_below_drewN | apply below_drew1))) HS.out).mono ?_); rintro e w6 ⟨rfl, hb⟩; have HB6 := Aside0.mk (below_step (by repeat (first | exact Below.refl _ _ | apply pw_below_drewN | apply below_drew1) : Below w.heap.size w _) hb); clear hb; have hcv := Lib.run_convert_string_bytes (P := Tryz.prog) w6 9 22 5 s (u := .string) Tryz.underlying9 Tryz.underlying22 Tryz.underlying5; have hgr := grown_le w6 s.size 5 (by have := HZ.out; omega); have hm := MR_conv w6 5 s (by have := HZ.out; omega) w6.heap.size (Nat.le_refl _) hgr.2 hgr.1; have HBV := Aside0.mk (bytes_below (Below.refl w6.heap.size w6) (Nat.le_refl _) 5 s); generalize Lib.bytesWorld w6 5 s = w7 at hm HBV hcv; generalize grownCap w6 s.size 0 5 = cap at hm hcv; have HM := Aside0.mk hm; clear hm hgr) | (go_at_call 42; (with_reducible refine (SortB.Sort_MR HBV.out HM.out (by have := HBL.out; have := HZ.out; omega)).mono ?_); rintro e w8 ⟨rfl, ho, hb⟩; rw [← HYS.out] at ho; clear HM HBV hcv; have HM := Aside0.mk ho; have HBV := Aside0.mk hb; clear ho hb) | (go_at_call 43; (with_reducible refine (impl_LeastSameDigits.index (some ⟨w6.heap.size, 0, none⟩) s.size cap ys _ HYL.out.symm (by have h := (MR_reads' HM.out).2.2; rw [HYL.out] at h; exact h) (by have := HYL.out; have := HZ.out; omega)).mono ?_); rintro e w' ⟨rfl, rfl⟩; rw [← HIX.out]))
    have hb : 0 ≤ ix ∧ ix < (s.size : Int) := by
     have h1 := HC.out; have h2 := HYL.out
     rcases HLT.out with e | ⟨_, e⟩
     · omega
     omega
    have hc0 := MR_celln 0 HM.out 0 (Int.le_refl 0) (by omega)
    have hci := MR_celln 0 HM.out ix hb.1 hb.2
    obtain ⟨hx0, hf0⟩ := hc0
    obtain ⟨hxi, hfi⟩ := hci
    have p0 : (0 ≤ ix) = True := eq_true hb.1
    have q0 : (ix < (s.size : Int)) = True := eq_true hb.2
    have p1 : (0 < (s.size : Int)) = True := eq_true (by omega)
    have p2 : (0 < s.size) = True := eq_true (by omega)
    simp only [Int.toNat_zero] at hx0 hf0
    have hm2 := (MR_putg HM.out 0 (rd ys ix)).1
    obtain ⟨hx2, hf2⟩ := MR_celln 0 hm2 ix hb.1 hb.2
    have hm3 := MR_drew (MR_putg hm2 ix (rd ys 0)).1
    have hb2 := HBV.out.setCell (p := ⟨w6.heap.size, 0, none⟩) (Nat.le_refl _) (.int .u8 (rd ys ix))
    have hb3 := hb2.setCell (p := ⟨w6.heap.size, ix.toNat, none⟩) (Nat.le_refl _) (.int .u8 (rd ys 0))
    have hb4 := below_drew1 hb3
    simp only [Int.toNat_zero] at hx2 hf2 hm3
    have HBW := Aside0.mk hb4
    have HBS := Aside0.mk hb3
    have HM3 := Aside0.mk hm3
    clear hb hm2 hm3 hb2 hb3 hb4
    obtain ⟨zs, hzs⟩ : ∃ zs, (ys.set 0 (rd ys ix)).set ix.toNat (rd ys 0) = zs := ⟨_, rfl⟩
    have hzl : zs.length = s.size := by rw [← hzs, List.length_set, List.length_set, HYL.out]
    rw [hzs] at HM3 HQ
    have hC := (MR_reads' HM3.out).2.2
    rw [hzl] at hC
    have hcv := Kd.C_string (P := Tryz.prog) (src := 22) (dst := 9) (e := 5) (c := cap) Tryz.underlying22 Tryz.underlying5 Tryz.underlying9 hC
    clear hC hzs hzl HM3
    go_region
    go_wp2_with (first | (go_at_call 37; (with_reducible refine (impl_numberOf.calls k _ q _ HQ.out).mono ?_); rintro e w' ⟨rfl, ⟨nd, rfl⟩⟩))
    go_ret2
    exact ⟨rfl, by repeat (first | exact below_step HB6.out HBW.out | exact below_step HB6.out HBS.out | apply pw_below_drewN | apply below_drew1)⟩
  rw [if_neg c] at hq
  have HQ := Aside0.mk hq
  have c1 : decide (0 < ix) = false := decide_eq_false c
  have c2 : decide (ix > 0) = false := decide_eq_false c
  clear hq c
  go_enter Tryz.func10, Tryz.ntmps10
  go_wp2_with (first | (go_at_call 34; (with_reducible refine (impl_isLeast.calls a0 true _ A1.out).mono ?_); rintro e w' ⟨rfl, ⟨nd, rfl⟩⟩) | (go_at_call 36; (with_reducible refine (strconv_Itoa.calls a0 s _ (Shelf.TabOk.below HT.out (by repeat (first | exact Below.refl _ _ | apply pw_below_drewN | apply below_drew1))) HS.out).mono ?_); rintro e w6 ⟨rfl, hb⟩; have HB6 := Aside0.mk (below_step (by repeat (first | exact Below.refl _ _ | apply pw_below_drewN | apply below_drew1) : Below w.heap.size w _) hb); clear hb; have hcv := Lib.run_convert_string_bytes (P := Tryz.prog) w6 9 22 5 s (u := .string) Tryz.underlying9 Tryz.underlying22 Tryz.underlying5; have hgr := grown_le w6 s.size 5 (by have := HZ.out; omega); have hm := MR_conv w6 5 s (by have := HZ.out; omega) w6.heap.size (Nat.le_refl _) hgr.2 hgr.1; have HBV := Aside0.mk (bytes_below (Below.refl w6.heap.size w6) (Nat.le_refl _) 5 s); generalize Lib.bytesWorld w6 5 s = w7 at hm HBV hcv; generalize grownCap w6 s.size 0 5 = cap at hm hcv; have HM := Aside0.mk hm; clear hm hgr) | (go_at_call 42; (with_reducible refine (SortB.Sort_MR HBV.out HM.out (by have := HBL.out; have := HZ.out; omega)).mono ?_); rintro e w8 ⟨rfl, ho, hb⟩; rw [← HYS.out] at ho; clear HM HBV hcv; have HM := Aside0.mk ho; have HBV := Aside0.mk hb; clear ho hb; have hC := (MR_reads' HM.out).2.2; rw [HYL.out] at hC; have hcv := Kd.C_string (P := Tryz.prog) (src := 22) (dst := 9) (e := 5) (c := cap) Tryz.underlying22 Tryz.underlying5 Tryz.underlying9 hC; clear hC) | (go_at_call 43; (with_reducible refine (impl_LeastSameDigits.index (some ⟨w6.heap.size, 0, none⟩) s.size cap ys _ HYL.out.symm (by have h := (MR_reads' HM.out).2.2; rw [HYL.out] at h; exact h) (by have := HYL.out; have := HZ.out; omega)).mono ?_); rintro e w' ⟨rfl, rfl⟩; rw [← HIX.out]) | (go_at_call 37; (with_reducible refine (impl_numberOf.calls k _ q _ HQ.out).mono ?_); rintro e w' ⟨rfl, ⟨nd, rfl⟩⟩))
  go_ret2
  exact ⟨rfl, by repeat (first | exact below_step HB6.out HBV.out | apply pw_below_drewN | apply below_drew1)⟩

/-! ### spec_leSorted: function 45 -/
mutual
def spec_leSorted.l0 : Nat → List Int → List Int → Int → Option (List Int)
 | 0, _, _, _ => none
 | k + 1, x3, x4, x5 => if x5 < 10 then (spec_leSorted.l1 k x3 x4 x5 x4 (x4.length : Int) 0) else (some x3)
def spec_leSorted.l1 : Nat → List Int → List Int → Int → List Int → Int → Int → Option (List Int)
 | 0, _, _, _, _, _, _ => none
 | k + 1, x3, x4, x5, x14, x15, x16 => if x16 < x15 then (if 0 ≤ x16 then (if x16 < (x14.length : Int) then (if (rd x14 x16) = x5 then (if x3.length < 17592186044416 then (spec_leSorted.l1 k (x3 ++ [x5]) x4 x5 x14 x15 (wrap64 (x16 + 1))) else (none)) else (spec_leSorted.l1 k x3 x4 x5 x14 x15 (wrap64 (x16 + 1)))) else (none)) else (none)) else (spec_leSorted.l0 k x3 x4 (wrap64 (x5 + 1)))
end
def spec_leSorted.f (k : Nat) (a0 : Int) : Option (List Int) := (spec_leList.f k a0).bind fun t225 => (spec_leSorted.l0 k ([] : List Int) t225 0)
theorem spec_leSorted.mono_l : ∀ k, (∀ y0 y1 y2, LeO (spec_leSorted.l0 k y0 y1 y2) (spec_leSorted.l0 (k + 1) y0 y1 y2)) ∧ (∀ y0 y1 y2 y3 y4 y5, LeO (spec_leSorted.l1 k y0 y1 y2 y3 y4 y5) (spec_leSorted.l1 (k + 1) y0 y1 y2 y3 y4 y5))
 | 0 => ⟨fun _ _ _ r h => by simp [spec_leSorted.l0] at h, fun _ _ _ _ _ _ r h => by simp [spec_leSorted.l1] at h⟩
 | k + 1 => by
  obtain ⟨ih0, ih1⟩ := spec_leSorted.mono_l k
  refine ⟨?_, ?_⟩
  · intro y0 y1 y2
    unfold spec_leSorted.l0
    repeat' first
    | (with_reducible exact ih0 _ _ _)
    | (with_reducible exact ih1 _ _ _ _ _ _)
    | (with_reducible exact spec_leList.mono _ _)
    | (with_reducible exact LeO.refl _)
    | (with_reducible exact LeO.none _)
    | (with_reducible refine LeO.ite ?_ ?_)
    | (with_reducible refine LeO.bind ?_ (fun _ => ?_))
    | exact ih0 _ _ _
    | exact ih1 _ _ _ _ _ _
    | exact spec_leList.mono _ _
    | exact LeO.none _
    | refine LeO.ite ?_ ?_
    | refine LeO.bind ?_ (fun _ => ?_)
  intro y0 y1 y2 y3 y4 y5
  unfold spec_leSorted.l1
  repeat' first
  | (with_reducible exact ih0 _ _ _)
  | (with_reducible exact ih1 _ _ _ _ _ _)
  | (with_reducible exact spec_leList.mono _ _)
  | (with_reducible exact LeO.refl _)
  | (with_reducible exact LeO.none _)
  | (with_reducible refine LeO.ite ?_ ?_)
  | (with_reducible refine LeO.bind ?_ (fun _ => ?_))
  | exact ih0 _ _ _
  | exact ih1 _ _ _ _ _ _
  | exact spec_leList.mono _ _
  | exact LeO.none _
  | refine LeO.ite ?_ ?_
  | refine LeO.bind ?_ (fun _ => ?_)
theorem spec_leSorted.mono : ∀ a0 k, LeO (spec_leSorted.f k a0) (spec_leSorted.f (k + 1) a0) := by
 intro a0 k
 obtain ⟨ih0, ih1⟩ := spec_leSorted.mono_l k
 unfold spec_leSorted.f
 repeat' first
  | (with_reducible exact ih0 _ _ _)
  | (with_reducible exact ih1 _ _ _ _ _ _)
  | (with_reducible exact spec_leList.mono _ _)
  | (with_reducible exact LeO.refl _)
  | (with_reducible exact LeO.none _)
  | (with_reducible refine LeO.ite ?_ ?_)
  | (with_reducible refine LeO.bind ?_ (fun _ => ?_))
  | exact ih0 _ _ _
  | exact ih1 _ _ _ _ _ _
  | exact spec_leList.mono _ _
  | exact LeO.none _
  | refine LeO.ite ?_ ?_
  | refine LeO.bind ?_ (fun _ => ?_)
set_option maxHeartbeats 8000000 in
set_option maxRecDepth 100000 in
theorem spec_leSorted.calls (k : Nat) (a0 : Int) (r : List Int) (w : World) (h : spec_leSorted.f k a0 = some r) :
 Calls Tryz.prog 45 #[.int .i64 a0] w fun e w' => ∃ v0_ : Value, e = .returned (v0_) ∧ Kd.R (Kd.int .i64) 3 w' w.heap.size (fun _ => True) v0_ r ∧ Below w.heap.size w w' := by
 have HB := Aside0.mk (Below.refl w.heap.size w)
 have H : ((spec_leList.f k a0).bind fun t225 => (spec_leSorted.l0 k ([] : List Int) t225 0)) = some r := h
 clear h
 replace H := Option.bind_eq_some_iff.mp H
 obtain ⟨t225, A20, H⟩ := H
 have A2 := Aside0.mk A20
 clear A20
 have H' := Aside0.mk H
 clear H
 go_enter Tryz.func45, Tryz.ntmps45
 go_wp2_with (first | ((with_reducible refine gate_callee (f := 40) rfl ?_); refine goesL_ (some 9) rfl rfl Tryz.func40 (by kernel_rfl) rfl #[.int .i64 a0] rfl z4_1_ ?_; (with_reducible refine (spec_leList.calls k a0 t225 _ A2.out).mono ?_); rintro e w3 ⟨v226, rfl, ho0, hb⟩; refine ⟨_, rfl, ?_⟩; have n0_ := Aside0.mk (Kd.R_lower ho0 (below_size z4_0_)); have n1_ := Aside0.mk (below_step z4_0_ hb); clear HB; have HO227 := n0_; have HB := n1_; clear n0_ n1_; (try clear hb); (try clear hb2); (try clear hk); (try clear hi); (try clear ho0)))
 go_loopg [3, 5] k (fun kq v3 v5 w' => ∃ (x3_1 : List Int) (x5_1 : Int), v5 = .int .i64 x5_1 ∧ Aside0 (spec_leSorted.l0 kq x3_1 t225 x5_1 = some r) ∧ Aside0 (kq ≤ k) ∧ Aside0 (Kd.R (Kd.int .i64) 3 w' w.heap.size (fun k_ => some k_ ≠ (v226 : Value).ownBlock) v3 x3_1) ∧ Aside0 (Kd.R (Kd.int .i64) 3 w' w.heap.size (fun k_ => some k_ ≠ (v3 : Value).ownBlock) v226 t225) ∧ Aside0 (Below w.heap.size w w'))
 case atStart => exact ⟨(([] : List Int)), (0), z4_4_, H', ⟨Nat.le_refl _⟩, ⟨by first | exact Kd.R_nil _ _ _ _ _ | exact Kd.N_nil _ _ _ _ _ | exact Kd.V_nil _ _ _ _ _ | exact Kd.Q_nil _ _ _ _ _ | exact Kd.S_nil _ _ _ _ _⟩, ⟨by (with_reducible repeat (first | apply Kd.R_alloc | apply Kd.R_drewN | apply Kd.R_drew)); exact Kd.R_mono HO227.out (fun _ hk => (by simp [Value.ownBlock]))⟩, ⟨by repeat (first | (with_reducible first | exact HB.out | apply below_alloc | apply pw_below_drewN | apply below_drew1) | exact HB.out)⟩⟩
 case round =>
  clear H'
  try clear p2
  obtain ⟨x3_1, x5_1, rfl, HA, HK1, HO_3, HO_4, HB⟩ := hrel
  cases gk with
  | zero => exact absurd HA.out (by simp [spec_leSorted.l0])
  | succ k1 =>
   have H := HA.out
   clear HA
   simp only [spec_leSorted.l0] at H
   by_cases c4 : x5_1 < 10
   · rw [if_pos c4] at H
     have c4b0 : decide (x5_1 < 10) = true := decide_eq_true c4
     clear c4
     have H' := Aside0.mk H
     clear H
     obtain ⟨Ao5, co5, eo5⟩ := Kd.R_slice HO_4.out
     subst eo5
     go_wp2
     go_loopg [3, 16] k1 (fun kq v3 v16 w' => ∃ (x3_2 : List Int) (x16_2 : Int), v16 = .int .i64 x16_2 ∧ Aside0 (spec_leSorted.l1 kq x3_2 t225 x5_1 t225 (t225.length : Int) x16_2 = some r) ∧ Aside0 (kq ≤ k1) ∧ Aside0 (Kd.R (Kd.int .i64) 3 w' w.heap.size (fun k_ => some k_ ≠ ((.slice Ao5 t225.length co5) : Value).ownBlock ∧ some k_ ≠ ((.slice Ao5 t225.length co5) : Value).ownBlock) v3 x3_2) ∧ Aside0 (Kd.R (Kd.int .i64) 3 w' w.heap.size (fun k_ => some k_ ≠ (v3 : Value).ownBlock) (.slice Ao5 t225.length co5) t225) ∧ Aside0 (Kd.R (Kd.int .i64) 3 w' w.heap.size (fun k_ => some k_ ≠ (v3 : Value).ownBlock) (.slice Ao5 t225.length co5) t225) ∧ Aside0 (Below w.heap.size w w'))
     case atStart => exact ⟨(x3_1), (0), z4_4_, H', ⟨Nat.le_refl _⟩, ⟨by (with_reducible repeat (first | apply Kd.R_alloc | apply Kd.R_drewN | apply Kd.R_drew)); exact Kd.R_mono HO_3.out (fun _ hk => ⟨hk, hk⟩)⟩, ⟨by (with_reducible repeat (first | apply Kd.R_alloc | apply Kd.R_drewN | apply Kd.R_drew)); exact HO_4.out⟩, ⟨by (with_reducible repeat (first | apply Kd.R_alloc | apply Kd.R_drewN | apply Kd.R_drew)); exact HO_4.out⟩, ⟨by repeat (first | (with_reducible first | exact HB.out | apply below_alloc | apply pw_below_drewN | apply below_drew1) | exact HB.out)⟩⟩
     case round =>
      clear H'
      (try clear p2);(try clear c4);(try clear c4b0);(try clear p2)
      obtain ⟨x3_2, x16_2, rfl, HA, HK2, HO_3, HO_4, HO_14, HB⟩ := hrel
      cases gk with
      | zero => exact absurd HA.out (by simp [spec_leSorted.l1])
      | succ k2 =>
       have H := HA.out
       clear HA
       simp only [spec_leSorted.l1] at H
       by_cases c6 : x16_2 < (t225.length : Int)
       · rw [if_pos c6] at H
         have c6b0 : decide (x16_2 < (t225.length : Int)) = true := decide_eq_true c6
         clear c6
         by_cases c7 : 0 ≤ x16_2
         rotate_left
         · exact none_ (if_neg c7) H
         rw [if_pos c7] at H
         have c7b0 : decide (0 ≤ x16_2) = true := decide_eq_true c7
         clear c7
         by_cases c8 : x16_2 < (t225.length : Int)
         rotate_left
         · exact none_ (if_neg c8) H
         rw [if_pos c8] at H
         have c8b0 : decide (x16_2 < (t225.length : Int)) = true := decide_eq_true c8
         clear c8
         by_cases c9 : (rd t225 x16_2) = x5_1
         · rw [if_pos c9] at H
           have c9b0 : ((rd t225 x16_2) == x5_1) = true := beq_iff_eq.mpr c9
           have c9b1 : ((rd t225 x16_2) != x5_1) = false := bne_eq_false_iff_eq.mpr c9
           clear c9
           by_cases c10 : x3_2.length < 17592186044416
           rotate_left
           · exact none_ (if_neg c10) H
           rw [if_pos c10] at H
           have LMc10 := Aside0.mk c10
           clear c10
           obtain ⟨y229, hy229⟩ : ∃ y_ : List Int, y_ = (x3_2 ++ [x5_1]) := ⟨_, rfl⟩
           replace H : (spec_leSorted.l1 k2 y229 t225 x5_1 t225 (t225.length : Int) (wrap64 (x16_2 + 1))) = some r := by first | (rw [hy229]; with_reducible exact H) | (have H2_ := (Option.bind_some _ _).symm.trans H; rw [hy229]; with_reducible exact H2_) | (have H2_ := (Option.bind_some _ _).symm.trans H; with_reducible exact H2_) | with_reducible exact H | (rw [hy229]; exact H) | exact H
           have Ny229 := Aside0.mk hy229
           clear hy229
           have H' := Aside0.mk H
           clear H
           have p228 : 0 ≤ (x16_2 : Int) := of_decide_eq_true z4_3_
           have q228 : x16_2 < (t225.length : Int) := of_decide_eq_true z4_3_
           obtain ⟨ad228, e228, hx228_0⟩ := Kd.at_int (Kd.R_reads' HO_14.out).2.2 x16_2 p228 q228
           cases e228
           replace p228 := eq_true p228
           replace q228 := eq_true q228
           go_wp2_with (first | ((with_reducible refine gate_builtin (b := .append) (xs := #[.tmp 23, .tmp 25]) rfl ?_); at_builtin; refine Kd.R_append (Kd.int .i64) (w0 := w) w.heap.size rfl (.tmp 23) (.tmp 25) 41 3 (.int .i64 0) 8 rfl Tryz.underlying41 info3 rfl (by decide) (by omega) u3 x3_2 x5_1 [.int .i64 x5_1] (fun k_ => some k_ ≠ (.slice (some ad228) t225.length co5 : Value).ownBlock ∧ some k_ ≠ (.slice (some ad228) t225.length co5 : Value).ownBlock) (fun _ => False) rfl rfl ?aP (fun _ hk => hk.elim) ?aF ?aO ?aB ?aS ?aL ?_; (case aP => exact rfl); (case aB => exact z4_0_); (case aF => exact (fun k_ hk => ⟨Kd.fresh' (Kd.R_lt (by (with_reducible repeat (first | apply Kd.R_alloc | apply Kd.R_drewN | apply Kd.R_drew)); exact HO_4.out)) k_ hk, Kd.fresh' (Kd.R_lt (by (with_reducible repeat (first | apply Kd.R_alloc | apply Kd.R_drewN | apply Kd.R_drew)); exact HO_14.out)) k_ hk⟩)); (case aO => exact z4_5_); (case aS => exact (below_size z4_0_)); (case aL => have := LMc10.out; omega); intro v230 w11 ho hb hg hat; rw [← Ny229.out] at ho; have n0_ := Aside0.mk (Kd.R_after (ok := (fun _ => True)) (by (with_reducible repeat (first | apply Kd.R_alloc | apply Kd.R_drewN | apply Kd.R_drew)); exact Kd.R_mono HO_4.out (fun _ hk => ⟨trivial, hk⟩)) hg hat); have n1_ := Aside0.mk (Kd.R_after (ok := (fun _ => True)) (by (with_reducible repeat (first | apply Kd.R_alloc | apply Kd.R_drewN | apply Kd.R_drew)); exact Kd.R_mono HO_14.out (fun _ hk => ⟨trivial, hk⟩)) hg hat); have n2_ := Aside0.mk (hb); have n3_ := Aside0.mk (ho); clear HO_4; clear HO_14; clear HB; clear HO_3; have HO_4 := n0_; have HO_14 := n1_; have HB := n2_; have HO231 := n3_; clear n0_ n1_ n2_ n3_; clear ho hb hg hat))
           go_roundg k2
           case measure => have := HK1.out; have := HK2.out; omega
           case rel => exact ⟨(y229), (wrap64 (x16_2 + 1)), z4_4_, H', ⟨by have := HK1.out; have := HK2.out; omega⟩, ⟨by (with_reducible repeat (first | apply Kd.R_alloc | apply Kd.R_drewN | apply Kd.R_drew)); exact HO231.out⟩, ⟨by (with_reducible repeat (first | apply Kd.R_alloc | apply Kd.R_drewN | apply Kd.R_drew)); exact Kd.R_mono HO_4.out (fun _ hk => hk.2)⟩, ⟨by (with_reducible repeat (first | apply Kd.R_alloc | apply Kd.R_drewN | apply Kd.R_drew)); exact Kd.R_mono HO_14.out (fun _ hk => hk.2)⟩, ⟨by repeat (first | (with_reducible first | exact HB.out | apply below_alloc | apply pw_below_drewN | apply below_drew1) | exact HB.out)⟩⟩
         rw [if_neg c9] at H
         have c9b0 : ((rd t225 x16_2) == x5_1) = false := beq_eq_false_iff_ne.mpr c9
         have c9b1 : ((rd t225 x16_2) != x5_1) = true := bne_iff_ne.mpr c9
         have H' := Aside0.mk H
         clear H
         have p228 : 0 ≤ (x16_2 : Int) := of_decide_eq_true z4_3_
         have q228 : x16_2 < (t225.length : Int) := of_decide_eq_true z4_3_
         obtain ⟨ad228, e228, hx228_0⟩ := Kd.at_int (Kd.R_reads' HO_14.out).2.2 x16_2 p228 q228
         cases e228
         replace p228 := eq_true p228
         replace q228 := eq_true q228
         go_wp2
         go_roundg k2
         case measure => have := HK1.out; have := HK2.out; omega
         case rel => exact ⟨(x3_2), (wrap64 (x16_2 + 1)), z4_4_, H', ⟨by have := HK1.out; have := HK2.out; omega⟩, ⟨by (with_reducible repeat (first | apply Kd.R_alloc | apply Kd.R_drewN | apply Kd.R_drew)); exact HO_3.out⟩, ⟨by (with_reducible repeat (first | apply Kd.R_alloc | apply Kd.R_drewN | apply Kd.R_drew)); exact HO_4.out⟩, ⟨by (with_reducible repeat (first | apply Kd.R_alloc | apply Kd.R_drewN | apply Kd.R_drew)); exact HO_14.out⟩, ⟨by repeat (first | (with_reducible first | exact HB.out | apply below_alloc | apply pw_below_drewN | apply below_drew1) | exact HB.out)⟩⟩
       rw [if_neg c6] at H
       have c6b0 : decide (x16_2 < (t225.length : Int)) = false := decide_eq_false c6
       clear c6
       have H' := Aside0.mk H
       clear H
       go_wp2
       go_roundg k2
       case measure => have := HK1.out; have := HK2.out; omega
       case rel => exact ⟨(x3_2), (wrap64 (x5_1 + 1)), z4_4_, H', ⟨by have := HK1.out; have := HK2.out; omega⟩, ⟨by (with_reducible repeat (first | apply Kd.R_alloc | apply Kd.R_drewN | apply Kd.R_drew)); exact Kd.R_mono HO_3.out (fun _ hk => hk.1)⟩, ⟨by (with_reducible repeat (first | apply Kd.R_alloc | apply Kd.R_drewN | apply Kd.R_drew)); exact HO_4.out⟩, ⟨by repeat (first | (with_reducible first | exact HB.out | apply below_alloc | apply pw_below_drewN | apply below_drew1) | exact HB.out)⟩⟩
   rw [if_neg c4] at H
   have c4b0 : decide (x5_1 < 10) = false := decide_eq_false c4
   clear c4
   obtain rfl := Option.some.inj H
   go_wp2
   go_ret
   exact ⟨_, by first | rfl | (simp [errW_none, errW_some] <;> rfl) | (simp [*, errW_none, errW_some] <;> rfl), by (with_reducible repeat (first | apply Kd.R_alloc | apply Kd.R_drewN | apply Kd.R_drew)); exact Kd.R_mono HO_3.out (fun _ hk => trivial), by repeat (first | (with_reducible first | exact HB.out | apply below_alloc | apply pw_below_drewN | apply below_drew1) | exact HB.out)⟩

end Go.Proofs.YtjnfaidngaobmaaGreatDoor.PFnLeastOfDigits

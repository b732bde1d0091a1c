-- Laid by this session's program gprint.py over the kit's print.
import Derived.Test.YtogonichanoeaaaGreatDoorPFnLeastOfSumsx0
import Derived.Test.YtogonichanoeaaaGreatDoorPFnLeastOfSumsx1
import Derived.Test.YtogonichanoeaaaGreatDoorPFnLeastOfSumsx2
import Derived.Test.YtogonichanoeaaaGreatDoorPFnLeastOfSumsx3
import Derived.Test.YtogonichanoeaaaGreatDoorPFnLeastOfSumsx4
namespace Go.Proofs.YtogonichanoeaaaGreatDoor.PFnLeastOfSums
open Go.RowKit Go.Proofs.YtogonichanoeaaaGreatDoorW.PrintWords Go.Proofs.YtogonichanoeaaaGreatDoorW.PrintLast Go.Proofs.YtogonichanoeaaaGreatDoorW.PrintMore
attribute [local go_sem] max2_int min2_int max_two min_two max_three min_three max_four min_four   -- for this text's walks alone
set_option linter.unusedVariables false
set_option linter.unusedSimpArgs false
theorem z7_0_ {p : Prop} (h : p := by repeat (first | (with_reducible first | exact HB.out | apply below_alloc | apply pw_below_drewN | apply below_drew1) | exact HB.out)) : p := h
theorem z7_1_ {p : Prop} (h : p := by (try simp only [List.map_toArray, List.map_cons, List.map_nil]); first | done | rfl | (simp only [List.length_drop, List.length_take]; rfl)) : p := h
theorem z7_2_ {p : Prop} (h : p := by repeat (first | (with_reducible first | exact HB.out | apply below_alloc | apply pw_below_drewN | apply below_drew1 | refine below_set ?_ (IsS41.ge HI321.out)) | exact HB.out)) : p := h
theorem z7_3_ {p : Prop} (h : p := by first | rfl | (simp; done) | (simp [*]; done)) : p := h
theorem z7_4_ {p : Prop} (h : p := by (with_reducible repeat (first | apply Kd.R_alloc | apply Kd.R_drewN | apply Kd.R_drew)); exact HO327.out) : p := h
theorem z7_5_ {p : Prop} (h : p := by (with_reducible repeat (first | apply Kd.R_alloc | apply Kd.R_drewN | apply Kd.R_drew)); exact HO_3.out) : p := h

/-! ### spec_leList: function 78 -/
def spec_leList.l0 : Nat → Int → List Int → Option (List Int)
 | 0, _, _ => none
 | k + 1, x0, x3 => if x0 > 0 then ((some (([Int.tmod x0 10] : List Int) : List Int)).bind fun y309 => (if y309.length + x3.length < 17592186044416 then (spec_leList.l0 k (wrap64 (Int.tdiv x0 10)) (y309 ++ x3)) else (none))) else (some x3)
def spec_leList.f (k : Nat) (a0 : Int) : Option (List Int) := spec_leList.l0 k (wrap64 (Int.tdiv a0 10)) (([Int.tmod a0 10] : List Int))
theorem spec_leList.mono_l : ∀ k, (∀ y0 y1, LeO (spec_leList.l0 k y0 y1) (spec_leList.l0 (k + 1) y0 y1))
 | 0 => fun _ _ r h => by simp [spec_leList.l0] at h
 | k + 1 => by
  have ih0 := spec_leList.mono_l k
  intro y0 y1
  unfold spec_leList.l0
  repeat' first
  | (with_reducible exact ih0 _ _)
  | (with_reducible exact LeO.refl _)
  | (with_reducible exact LeO.none _)
  | (with_reducible refine LeO.ite ?_ ?_)
  | (with_reducible refine LeO.bind ?_ (fun _ => ?_))
  | exact ih0 _ _
  | exact LeO.none _
  | refine LeO.ite ?_ ?_
  | refine LeO.bind ?_ (fun _ => ?_)
theorem spec_leList.mono : ∀ a0 k, LeO (spec_leList.f k a0) (spec_leList.f (k + 1) a0) := by
 intro a0 k
 have ih0 := spec_leList.mono_l k
 unfold spec_leList.f
 repeat' first
  | (with_reducible exact ih0 _ _)
  | (with_reducible exact LeO.refl _)
  | (with_reducible exact LeO.none _)
  | (with_reducible refine LeO.ite ?_ ?_)
  | (with_reducible refine LeO.bind ?_ (fun _ => ?_))
  | exact ih0 _ _
  | exact LeO.none _
  | refine LeO.ite ?_ ?_
  | refine LeO.bind ?_ (fun _ => ?_)
set_option maxHeartbeats 8000000 in
set_option maxRecDepth 100000 in
theorem spec_leList.calls (k : Nat) (a0 : Int) (r : List Int) (w : World) (h : spec_leList.f k a0 = some r) :
 Calls Tryz.prog 78 #[.int .i64 a0] w fun e w' => ∃ v0_ : Value, e = .returned (v0_) ∧ Kd.R (Kd.int .i64) 3 w' w.heap.size (fun _ => True) v0_ r ∧ Below w.heap.size w w' := by
 have HB := Aside0.mk (Below.refl w.heap.size w)
 have H : (spec_leList.l0 k (wrap64 (Int.tdiv a0 10)) (([Int.tmod a0 10] : List Int))) = some r := h
 clear h
 obtain ⟨y306, hy306⟩ : ∃ y_ : List Int, y_ = (([Int.tmod a0 10] : List Int)) := ⟨_, rfl⟩
 replace H : (spec_leList.l0 k (wrap64 (Int.tdiv a0 10)) y306) = some r := by first | (rw [hy306]; with_reducible exact H) | (have H2_ := (Option.bind_some _ _).symm.trans H; rw [hy306]; with_reducible exact H2_) | (have H2_ := (Option.bind_some _ _).symm.trans H; with_reducible exact H2_) | with_reducible exact H | (rw [hy306]; exact H) | exact H
 have Ny306 := Aside0.mk hy306
 clear hy306
 have H' := Aside0.mk H
 clear H
 go_enter Tryz.func78, Tryz.ntmps78
 go_wp2_with (first | ((with_reducible refine gate_dst (N := 6) rfl ?_); refine Kd.R_lit (Kd.int .i64) _ 3 ?hg (N := 6) ?hd (xs := ([Int.tmod a0 10] : List Int)) (inner := [.int .i64 (Int.tmod a0 10)]) (ok := fun _ => True) (okp := fun _ => True) ?hr ?hp (fun _ hk => hk) trivial (Below.refl _ _) (Nat.le_refl _) (by simp) ?_; (case hd => rfl); (case hg => rfl); (case hr => first | (go_simp; done) | (go_simp; rfl)); (case hp => exact (Reps.one (show Kd.M (Kd.int .i64) _ _ _ (Int.tmod a0 10) [.int .i64 (Int.tmod a0 10)] from rfl) (Reps.none _ _))); intro v307 w2 ho3 hb hg_ hnew_; clear hg_ hnew_; (first | rw [← Ny306.out] at ho3 | (simp only [Int.reduceToNat] at ho3; rw [← Ny306.out] at ho3)); have n0_ := Aside0.mk (Kd.R_lower ho3 (below_size z7_0_)); have n1_ := Aside0.mk (below_step z7_0_ hb); clear HB; have HO308 := n0_; have HB := n1_; clear n0_ n1_; clear hb ho3))
 go_loopg [0, 3] k (fun kq v0 v3 w' => ∃ (x0_1 : Int) (x3_1 : List Int), v0 = .int .i64 x0_1 ∧ Aside0 (spec_leList.l0 kq x0_1 x3_1 = some r) ∧ Aside0 (kq ≤ k) ∧ Aside0 (Kd.R (Kd.int .i64) 3 w' w.heap.size (fun _ => True) v3 x3_1) ∧ Aside0 (Below w.heap.size w w'))
 case atStart => exact ⟨(wrap64 (Int.tdiv a0 10)), (y306), z7_3_, H', ⟨Nat.le_refl _⟩, ⟨by (with_reducible repeat (first | apply Kd.R_alloc | apply Kd.R_drewN | apply Kd.R_drew)); exact HO308.out⟩, ⟨by repeat (first | (with_reducible first | exact HB.out | apply below_alloc | apply pw_below_drewN | apply below_drew1) | exact HB.out)⟩⟩
 case round =>
  clear H'
  try clear p2
  obtain ⟨x0_1, x3_1, rfl, HA, HK1, HO_3, HB⟩ := hrel
  cases gk with
  | zero => exact absurd HA.out (by simp [spec_leList.l0])
  | succ k1 =>
   have H := HA.out
   clear HA
   simp only [spec_leList.l0] at H
   by_cases c4 : x0_1 > 0
   · rw [if_pos c4] at H
     have c4b0 : decide (0 < x0_1) = true := decide_eq_true c4
     clear c4
     obtain ⟨y309, hy309⟩ : ∃ y_ : List Int, y_ = (([Int.tmod x0_1 10] : List Int)) := ⟨_, rfl⟩
     replace H : (if y309.length + x3_1.length < 17592186044416 then (spec_leList.l0 k1 (wrap64 (Int.tdiv x0_1 10)) (y309 ++ x3_1)) else (none)) = some r := by first | (rw [hy309]; with_reducible exact H) | (have H2_ := (Option.bind_some _ _).symm.trans H; rw [hy309]; with_reducible exact H2_) | (have H2_ := (Option.bind_some _ _).symm.trans H; with_reducible exact H2_) | with_reducible exact H | (rw [hy309]; exact H) | exact H
     have Ny309 := Aside0.mk hy309
     clear hy309
     by_cases c5 : y309.length + x3_1.length < 17592186044416
     rotate_left
     · exact none_ (if_neg c5) H
     rw [if_pos c5] at H
     have LMc5 := Aside0.mk c5
     clear c5
     obtain ⟨y312, hy312⟩ : ∃ y_ : List Int, y_ = (y309 ++ x3_1) := ⟨_, rfl⟩
     replace H : (spec_leList.l0 k1 (wrap64 (Int.tdiv x0_1 10)) y312) = some r := by first | (rw [hy312]; with_reducible exact H) | (have H2_ := (Option.bind_some _ _).symm.trans H; rw [hy312]; with_reducible exact H2_) | (have H2_ := (Option.bind_some _ _).symm.trans H; with_reducible exact H2_) | with_reducible exact H | (rw [hy312]; exact H) | exact H
     have Ny312 := Aside0.mk hy312
     clear hy312
     have H' := Aside0.mk H
     clear H
     go_wp2_with (first | ((with_reducible refine gate_dst (N := 15) rfl ?_); refine Kd.R_lit (Kd.int .i64) _ 3 ?hg (N := 15) ?hd (xs := ([Int.tmod x0_1 10] : List Int)) (inner := [.int .i64 (Int.tmod x0_1 10)]) (ok := fun _ => True) (okp := fun _ => True) ?hr ?hp (fun _ hk => hk) trivial (Below.refl _ _) (Nat.le_refl _) (by simp) ?_; (case hd => rfl); (case hg => rfl); (case hr => first | (go_simp; done) | (go_simp; rfl)); (case hp => exact (Reps.one (show Kd.M (Kd.int .i64) _ _ _ (Int.tmod x0_1 10) [.int .i64 (Int.tmod x0_1 10)] from rfl) (Reps.none _ _))); intro v310 w6 ho7 hb hg_ hnew_; clear hg_ hnew_; (first | rw [← Ny309.out] at ho7 | (simp only [Int.reduceToNat] at ho7; rw [← Ny309.out] at ho7)); have n0_ := Aside0.mk (Kd.R_elder' z7_5_ (Kd.R_base ho7) hb); have n1_ := Aside0.mk (Kd.R_lower (Kd.R_new' ho7 (Kd.R_lt z7_5_)) (below_size z7_0_)); have n2_ := Aside0.mk (below_step z7_0_ hb); clear HO_3; clear HB; have HO_3 := n0_; have HO311 := n1_; have HB := n2_; clear n0_ n1_ n2_; clear hb ho7; obtain ⟨Ao9, co9, eo9⟩ := Kd.R_slice HO_3.out; subst eo9) | ((with_reducible refine gate_builtin (b := .append) (xs := #[.tmp 15, .tmp 16]) rfl ?_); at_builtin; refine Kd.R_append_rows (Kd.int .i64) (w0 := w) w.heap.size rfl (.tmp 15) (.tmp 16) 47 3 (.int .i64 0) 8 rfl Tryz.underlying47 info3 rfl (by decide) (by omega) v310 y309 x3_1 _ _ _ (fun k_ => some k_ ≠ (.slice Ao9 x3_1.length co9 : Value).ownBlock) (fun _ => False) rfl rfl ?aO ?aR (fun _ _ h => h) (fun _ h => h.elim) ?aF ?aB ?aS ?aL ?_; (case aR => repeat (first | exact (Kd.R_reads' HO_3.out).2.2 | (with_reducible refine Kd.C_alloc ?_ _) | (with_reducible refine Kd.C_drewN ?_ _) | (with_reducible refine Kd.C_drew ?_))); (case aB => exact z7_0_); (case aF => exact (fun k_ hk => Kd.fresh' (Kd.R_lt z7_5_) k_ hk)); (case aO => exact (by (with_reducible repeat (first | apply Kd.R_alloc | apply Kd.R_drewN | apply Kd.R_drew)); exact Kd.R_mono HO311.out (fun _ hk => hk.2))); (case aS => exact (below_size z7_0_)); (case aL => have := LMc5.out; omega); intro v313 w8 ho hb hg hat; rw [← Ny312.out] at ho; have n0_ := Aside0.mk (Kd.R_after (ok := (fun _ => True)) z7_5_ hg hat); have n1_ := Aside0.mk (hb); have n2_ := Aside0.mk (ho); clear HO_3; clear HB; clear HO311; have HO_3 := n0_; have HB := n1_; have HO314 := n2_; clear n0_ n1_ n2_; clear ho hb hg hat))
     go_roundg k1
     case measure => have := HK1.out; omega
     case rel => exact ⟨(wrap64 (Int.tdiv x0_1 10)), (y312), z7_3_, H', ⟨by have := HK1.out; omega⟩, ⟨by (with_reducible repeat (first | apply Kd.R_alloc | apply Kd.R_drewN | apply Kd.R_drew)); exact Kd.R_mono HO314.out (fun _ hk => trivial)⟩, ⟨by repeat (first | (with_reducible first | exact HB.out | apply below_alloc | apply pw_below_drewN | apply below_drew1) | exact HB.out)⟩⟩
   rw [if_neg c4] at H
   have c4b0 : decide (0 < x0_1) = false := decide_eq_false c4
   clear c4
   obtain rfl := Option.some.inj H
   go_wp2
   go_ret
   exact ⟨_, by first | rfl | (simp [errW_none, errW_some] <;> rfl) | (simp [*, errW_none, errW_some] <;> rfl), by (with_reducible repeat (first | apply Kd.R_alloc | apply Kd.R_drewN | apply Kd.R_drew)); exact HO_3.out, by repeat (first | (with_reducible first | exact HB.out | apply below_alloc | apply pw_below_drewN | apply below_drew1) | exact HB.out)⟩

/-! ### spec_SumDivides: function 24 -/
mutual
def spec_SumDivides.l0 : Nat → Int → Option (Int × Bool)
 | 0, _ => none
 | k + 1, x0 => (spec_leList.f k x0).bind fun t317 => (spec_SumDivides.l1 k x0 0 t317 (t317.length : Int) 0)
def spec_SumDivides.l1 : Nat → Int → Int → List Int → Int → Int → Option (Int × Bool)
 | 0, _, _, _, _, _ => none
 | k + 1, x0, x4, x15, x16, x17 => if x17 < x16 then (if 0 ≤ x17 then (if x17 < (x15.length : Int) then (spec_SumDivides.l1 k x0 (wrap64 (x4 + (rd x15 x17))) x15 x16 (wrap64 (x17 + 1))) else (none)) else (none)) else (if x4 = 0 then (none) else (if (Int.tmod x0 x4) = 0 then (some (x0, true)) else (spec_SumDivides.l0 k (wrap64 (x0 + 1)))))
end
def spec_SumDivides.f (k : Nat) (a0 : Int) : Option (Int × Bool) := (spec_leNumber.f a0).bind fun t315 => (if t315 = true then ((spec_l1Most.f 1 a0).bind fun t316 => (spec_SumDivides.l0 k t316)) else (some (0, false)))
theorem spec_SumDivides.mono_l : ∀ k, (∀ y0, LeO (spec_SumDivides.l0 k y0) (spec_SumDivides.l0 (k + 1) y0)) ∧ (∀ y0 y1 y2 y3 y4, LeO (spec_SumDivides.l1 k y0 y1 y2 y3 y4) (spec_SumDivides.l1 (k + 1) y0 y1 y2 y3 y4))
 | 0 => ⟨fun _ r h => by simp [spec_SumDivides.l0] at h, fun _ _ _ _ _ r h => by simp [spec_SumDivides.l1] at h⟩
 | k + 1 => by
  obtain ⟨ih0, ih1⟩ := spec_SumDivides.mono_l k
  refine ⟨?_, ?_⟩
  · intro y0
    unfold spec_SumDivides.l0
    repeat' first
    | (with_reducible exact ih0 _)
    | (with_reducible exact ih1 _ _ _ _ _)
    | (with_reducible exact spec_leList.mono _ _)
    | (with_reducible exact LeO.refl _)
    | (with_reducible exact LeO.none _)
    | (with_reducible refine LeO.ite ?_ ?_)
    | (with_reducible refine LeO.bind ?_ (fun _ => ?_))
    | exact ih0 _
    | exact ih1 _ _ _ _ _
    | exact spec_leList.mono _ _
    | exact LeO.none _
    | refine LeO.ite ?_ ?_
    | refine LeO.bind ?_ (fun _ => ?_)
  intro y0 y1 y2 y3 y4
  unfold spec_SumDivides.l1
  repeat' first
  | (with_reducible exact ih0 _)
  | (with_reducible exact ih1 _ _ _ _ _)
  | (with_reducible exact spec_leList.mono _ _)
  | (with_reducible exact LeO.refl _)
  | (with_reducible exact LeO.none _)
  | (with_reducible refine LeO.ite ?_ ?_)
  | (with_reducible refine LeO.bind ?_ (fun _ => ?_))
  | exact ih0 _
  | exact ih1 _ _ _ _ _
  | exact spec_leList.mono _ _
  | exact LeO.none _
  | refine LeO.ite ?_ ?_
  | refine LeO.bind ?_ (fun _ => ?_)
theorem spec_SumDivides.mono : ∀ a0 k, LeO (spec_SumDivides.f k a0) (spec_SumDivides.f (k + 1) a0) := by
 intro a0 k
 obtain ⟨ih0, ih1⟩ := spec_SumDivides.mono_l k
 unfold spec_SumDivides.f
 repeat' first
  | (with_reducible exact ih0 _)
  | (with_reducible exact ih1 _ _ _ _ _)
  | (with_reducible exact spec_leList.mono _ _)
  | (with_reducible exact LeO.refl _)
  | (with_reducible exact LeO.none _)
  | (with_reducible refine LeO.ite ?_ ?_)
  | (with_reducible refine LeO.bind ?_ (fun _ => ?_))
  | exact ih0 _
  | exact ih1 _ _ _ _ _
  | exact spec_leList.mono _ _
  | exact LeO.none _
  | refine LeO.ite ?_ ?_
  | refine LeO.bind ?_ (fun _ => ?_)
set_option maxHeartbeats 8000000 in
set_option maxRecDepth 100000 in
theorem spec_SumDivides.calls (k : Nat) (a0 : Int) (r1 : Int) (r2 : Bool) (w : World) (h : spec_SumDivides.f k a0 = some (r1, r2)) :
 Calls Tryz.prog 24 #[.int .i64 a0] w fun e w' => e = .returned (.tuple #[.int .i64 r1, .bool r2]) ∧ Below w.heap.size w w' := by
 have HB := Aside0.mk (Below.refl w.heap.size w)
 have H : ((spec_leNumber.f a0).bind fun t315 => (if t315 = true then ((spec_l1Most.f 1 a0).bind fun t316 => (spec_SumDivides.l0 k t316)) else (some (0, false)))) = some (r1, r2) := h
 clear h
 replace H := Option.bind_eq_some_iff.mp H
 obtain ⟨t315, A20, H⟩ := H
 have A2 := Aside0.mk A20
 clear A20
 by_cases c3 : t315 = true
 · subst c3
   have H1 : ((spec_l1Most.f 1 a0).bind fun t316 => (spec_SumDivides.l0 k t316)) = some (r1, r2) := by rw [if_pos rfl] at H; exact H
   clear H
   have H := H1
   clear H1
   replace H := Option.bind_eq_some_iff.mp H
   obtain ⟨t316, A40, H⟩ := H
   have A4 := Aside0.mk A40
   clear A40
   have H' := Aside0.mk H
   clear H
   go_enter Tryz.func24, Tryz.ntmps24
   go_wp2_with (first | ((with_reducible refine gate_callee (f := 61) rfl ?_); refine goesL_ (some 8) rfl rfl Tryz.func61 (by kernel_rfl) rfl #[.int .i64 a0] rfl z7_1_ ?_; (with_reducible refine (spec_leNumber.calls a0 true _ A2.out).mono ?_); rintro e w' ⟨rfl, ⟨nd, rfl⟩⟩; refine ⟨_, rfl, ?_⟩) | ((with_reducible refine gate_callee (f := 72) rfl ?_); refine goesL_ (some 11) rfl rfl Tryz.func72 (by kernel_rfl) rfl #[.int .i64 1, .int .i64 a0] rfl z7_1_ ?_; (with_reducible refine (spec_l1Most.calls 1 a0 t316 _ A4.out).mono ?_); rintro e w' ⟨rfl, ⟨nd, rfl⟩⟩; refine ⟨_, rfl, ?_⟩))
   go_loopg [0] k (fun kq v0 w' => ∃ (x0_1 : Int), v0 = .int .i64 x0_1 ∧ Aside0 (spec_SumDivides.l0 kq x0_1 = some (r1, r2)) ∧ Aside0 (kq ≤ k) ∧ Aside0 (Below w.heap.size w w'))
   case atStart => exact ⟨(t316), z7_3_, H', ⟨Nat.le_refl _⟩, ⟨by repeat (first | (with_reducible first | exact HB.out | apply below_alloc | apply pw_below_drewN | apply below_drew1) | exact HB.out)⟩⟩
   case round =>
    clear H'
    (try clear c2);(try clear p2);(try clear c3)
    obtain ⟨x0_1, rfl, HA, HK1, HB⟩ := hrel
    cases gk with
    | zero => exact absurd HA.out (by simp [spec_SumDivides.l0])
    | succ k1 =>
     have H := HA.out
     clear HA
     simp only [spec_SumDivides.l0] at H
     replace H := Option.bind_eq_some_iff.mp H
     obtain ⟨t317, A50, H⟩ := H
     have A5 := Aside0.mk A50
     clear A50
     have H' := Aside0.mk H
     clear H
     go_wp2_with (first | ((with_reducible refine gate_callee (f := 78) rfl ?_); refine goesL_ (some 15) rfl rfl Tryz.func78 (by kernel_rfl) rfl #[.int .i64 x0_1] rfl z7_1_ ?_; (with_reducible refine (spec_leList.calls k1 x0_1 t317 _ A5.out).mono ?_); rintro e w6 ⟨v318, rfl, ho0, hb⟩; refine ⟨_, rfl, ?_⟩; have n0_ := Aside0.mk (Kd.R_lower ho0 (below_size z7_0_)); have n1_ := Aside0.mk (below_step z7_0_ hb); clear HB; have HO319 := n0_; have HB := n1_; clear n0_ n1_; (try clear hb); (try clear hb2); (try clear hk); (try clear hi); (try clear ho0); obtain ⟨Ao7, co7, eo7⟩ := Kd.R_slice HO319.out; subst eo7))
     go_loopg [4, 17] k1 (fun kq v4 v17 w' => ∃ (x4_2 : Int) (x17_2 : Int), v4 = .int .i64 x4_2 ∧ v17 = .int .i64 x17_2 ∧ Aside0 (spec_SumDivides.l1 kq x0_1 x4_2 t317 (t317.length : Int) x17_2 = some (r1, r2)) ∧ Aside0 (kq ≤ k1) ∧ Aside0 (Kd.R (Kd.int .i64) 3 w' w.heap.size (fun _ => True) (.slice Ao7 t317.length co7) t317) ∧ Aside0 (Below w.heap.size w w'))
     case atStart => exact ⟨(0), (0), z7_3_, z7_3_, H', ⟨Nat.le_refl _⟩, ⟨by (with_reducible repeat (first | apply Kd.R_alloc | apply Kd.R_drewN | apply Kd.R_drew)); exact HO319.out⟩, ⟨by repeat (first | (with_reducible first | exact HB.out | apply below_alloc | apply pw_below_drewN | apply below_drew1) | exact HB.out)⟩⟩
     case round =>
      clear H'
      (try clear c2);(try clear p2);(try clear c3);(try clear c6);(try clear c7);(try clear p2)
      obtain ⟨x4_2, x17_2, rfl, rfl, HA, HK2, HO_15, HB⟩ := hrel
      cases gk with
      | zero => exact absurd HA.out (by simp [spec_SumDivides.l1])
      | succ k2 =>
       have H := HA.out
       clear HA
       simp only [spec_SumDivides.l1] at H
       by_cases c8 : x17_2 < (t317.length : Int)
       · rw [if_pos c8] at H
         have c8b0 : decide (x17_2 < (t317.length : Int)) = true := decide_eq_true c8
         clear c8
         by_cases c9 : 0 ≤ x17_2
         rotate_left
         · exact none_ (if_neg c9) H
         rw [if_pos c9] at H
         have c9b0 : decide (0 ≤ x17_2) = true := decide_eq_true c9
         clear c9
         by_cases c10 : x17_2 < (t317.length : Int)
         rotate_left
         · exact none_ (if_neg c10) H
         rw [if_pos c10] at H
         have c10b0 : decide (x17_2 < (t317.length : Int)) = true := decide_eq_true c10
         clear c10
         have H' := Aside0.mk H
         clear H
         have p320 : 0 ≤ (x17_2 : Int) := of_decide_eq_true (by first | (with_reducible assumption) | assumption)
         have q320 : x17_2 < (t317.length : Int) := of_decide_eq_true (by first | (with_reducible assumption) | assumption)
         obtain ⟨ad320, e320, hx320_0⟩ := Kd.at_int (Kd.R_reads' HO_15.out).2.2 x17_2 p320 q320
         cases e320
         replace p320 := eq_true p320
         replace q320 := eq_true q320
         go_wp2
         go_roundg k2
         case measure => have := HK1.out; have := HK2.out; omega
         case rel => exact ⟨(wrap64 (x4_2 + (rd t317 x17_2))), (wrap64 (x17_2 + 1)), z7_3_, z7_3_, H', ⟨by have := HK1.out; have := HK2.out; omega⟩, ⟨by (with_reducible repeat (first | apply Kd.R_alloc | apply Kd.R_drewN | apply Kd.R_drew)); exact HO_15.out⟩, ⟨by repeat (first | (with_reducible first | exact HB.out | apply below_alloc | apply pw_below_drewN | apply below_drew1) | exact HB.out)⟩⟩
       rw [if_neg c8] at H
       have c8b0 : decide (x17_2 < (t317.length : Int)) = false := decide_eq_false c8
       clear c8
       by_cases c11 : x4_2 = 0
       · exact none_ (if_pos c11) H
       rw [if_neg c11] at H
       have c11b0 : (x4_2 == 0) = false := beq_eq_false_iff_ne.mpr c11
       have c11b1 : (x4_2 != 0) = true := bne_iff_ne.mpr c11
       by_cases c12 : (Int.tmod x0_1 x4_2) = 0
       · rw [if_pos c12] at H
         have c12b0 : ((Int.tmod x0_1 x4_2) == 0) = true := beq_iff_eq.mpr c12
         have c12b1 : ((Int.tmod x0_1 x4_2) != 0) = false := bne_eq_false_iff_eq.mpr c12
         clear c12
         simp only [Option.some.injEq, Prod.mk.injEq] at H
         obtain ⟨rfl, rfl⟩ := H
         go_wp2
         go_ret2
         exact ⟨by first | rfl | (simp [errW_none, errW_some] <;> rfl) | (simp [*, errW_none, errW_some] <;> rfl), by repeat (first | (with_reducible first | exact HB.out | apply below_alloc | apply pw_below_drewN | apply below_drew1) | exact HB.out)⟩
       rw [if_neg c12] at H
       have c12b0 : ((Int.tmod x0_1 x4_2) == 0) = false := beq_eq_false_iff_ne.mpr c12
       have c12b1 : ((Int.tmod x0_1 x4_2) != 0) = true := bne_iff_ne.mpr c12
       have H' := Aside0.mk H
       clear H
       go_wp2
       go_roundg k2
       case measure => have := HK1.out; have := HK2.out; omega
       case rel => exact ⟨(wrap64 (x0_1 + 1)), z7_3_, H', ⟨by have := HK1.out; have := HK2.out; omega⟩, ⟨by repeat (first | (with_reducible first | exact HB.out | apply below_alloc | apply pw_below_drewN | apply below_drew1) | exact HB.out)⟩⟩
 replace c3 := Bool.eq_false_iff.mpr c3
 subst c3
 have H1 : (some (0, false)) = some (r1, r2) := by rw [if_neg (show ¬ (false = true) by decide)] at H; exact H
 clear H
 have H := H1
 clear H1
 simp only [Option.some.injEq, Prod.mk.injEq] at H
 obtain ⟨rfl, rfl⟩ := H
 go_enter Tryz.func24, Tryz.ntmps24
 go_wp2_with (first | ((with_reducible refine gate_callee (f := 61) rfl ?_); refine goesL_ (some 8) rfl rfl Tryz.func61 (by kernel_rfl) rfl #[.int .i64 a0] rfl z7_1_ ?_; (with_reducible refine (spec_leNumber.calls a0 false _ A2.out).mono ?_); rintro e w' ⟨rfl, ⟨nd, rfl⟩⟩; refine ⟨_, rfl, ?_⟩))
 go_ret2
 exact ⟨by first | rfl | (simp [errW_none, errW_some] <;> rfl) | (simp [*, errW_none, errW_some] <;> rfl), by repeat (first | (with_reducible first | exact HB.out | apply below_alloc | apply pw_below_drewN | apply below_drew1) | exact HB.out)⟩

/-! ### spec_DrawLeastBoth: function 25 -/
def spec_DrawLeastBoth.l0 : Nat → Int → Int → Int → List Int → Int → Int → Option (Int × Int)
 | 0, _, _, _, _, _, _ => none
 | k + 1, x5, x6, x7, x322000, x322001, x322002 => if x7 > 0 then ((spec_l1Cur_pick.f x322000 x322001 x322002 9).bind fun bt340 => (spec_DrawLeastBoth.l0 k (wrap64 (x5 + (wrap64 (1 + bt340.1)))) (wrap64 (x6 * (wrap64 (1 + bt340.1)))) (wrap64 (x7 - 1)) x322000 bt340.2.1 bt340.2.2)) else ((spec_l1Cur_pick.f x322000 x322001 x322002 9).bind fun bt343 => (some (wrap64 (x5 + (wrap64 (Int.tdiv bt343.1 8))), x6)))
def spec_DrawLeastBoth.f (k : Nat) (l0 : List Int) : Option (Int × Int) := (spec_l1Cur_one.f l0 0 0 6).bind fun bt322 => (if bt322.1 = true then ((spec_l1Cur_among.f l0 bt322.2.1 bt322.2.2 (([(-1), 0, 1, 108, 109] : List Int))).bind fun bt328 => ((spec_l1Cur_among.f l0 bt328.2.1 bt328.2.2 (([(-1), 0, 1, 282429536481, 1000000000000, 1000000000001] : List Int))).bind fun bt334 => (some (bt328.1, bt334.1)))) else ((spec_l1Cur_pick.f l0 bt322.2.1 bt322.2.2 8).bind fun bt337 => (spec_DrawLeastBoth.l0 k 0 1 bt337.1 l0 bt337.2.1 bt337.2.2)))
theorem spec_DrawLeastBoth.mono_l : ∀ k, (∀ y0 y1 y2 y3 y4 y5, LeO (spec_DrawLeastBoth.l0 k y0 y1 y2 y3 y4 y5) (spec_DrawLeastBoth.l0 (k + 1) y0 y1 y2 y3 y4 y5))
 | 0 => fun _ _ _ _ _ _ r h => by simp [spec_DrawLeastBoth.l0] at h
 | k + 1 => by
  have ih0 := spec_DrawLeastBoth.mono_l k
  intro y0 y1 y2 y3 y4 y5
  unfold spec_DrawLeastBoth.l0
  repeat' first
  | (with_reducible exact ih0 _ _ _ _ _ _)
  | (with_reducible exact LeO.refl _)
  | (with_reducible exact LeO.none _)
  | (with_reducible refine LeO.ite ?_ ?_)
  | (with_reducible refine LeO.bind ?_ (fun _ => ?_))
  | exact ih0 _ _ _ _ _ _
  | exact LeO.none _
  | refine LeO.ite ?_ ?_
  | refine LeO.bind ?_ (fun _ => ?_)
theorem spec_DrawLeastBoth.mono : ∀ a0 k, LeO (spec_DrawLeastBoth.f k a0) (spec_DrawLeastBoth.f (k + 1) a0) := by
 intro a0 k
 have ih0 := spec_DrawLeastBoth.mono_l k
 unfold spec_DrawLeastBoth.f
 repeat' first
  | (with_reducible exact ih0 _ _ _ _ _ _)
  | (with_reducible exact LeO.refl _)
  | (with_reducible exact LeO.none _)
  | (with_reducible refine LeO.ite ?_ ?_)
  | (with_reducible refine LeO.bind ?_ (fun _ => ?_))
  | exact ih0 _ _ _ _ _ _
  | exact LeO.none _
  | refine LeO.ite ?_ ?_
  | refine LeO.bind ?_ (fun _ => ?_)
set_option maxHeartbeats 8000000 in
set_option maxRecDepth 100000 in
theorem spec_DrawLeastBoth.calls (k : Nat) (A0 : Option Addr) (c0 : Nat) (l0 : List Int) (r1 : Int) (r2 : Int) (w : World) (hr0 : Kd.C (Kd.int .u8) w A0 l0.length l0) (hc0 : l0.length ≤ c0) (h : spec_DrawLeastBoth.f k l0 = some (r1, r2)) :
 Calls Tryz.prog 25 #[.slice A0 l0.length c0] w fun e w' => e = .returned (.tuple #[.int .i64 r1, .int .i64 r2]) ∧ Below w.heap.size w w' := by
 have hu41 := Tryz.underlying41
 have HR0 := Aside0.mk hr0
 have HC0 := Aside0.mk hc0
 clear hr0 hc0
 have HB := Aside0.mk (Below.refl w.heap.size w)
 have H : ((spec_l1Cur_one.f l0 0 0 6).bind fun bt322 => (if bt322.1 = true then ((spec_l1Cur_among.f l0 bt322.2.1 bt322.2.2 (([(-1), 0, 1, 108, 109] : List Int))).bind fun bt328 => ((spec_l1Cur_among.f l0 bt328.2.1 bt328.2.2 (([(-1), 0, 1, 282429536481, 1000000000000, 1000000000001] : List Int))).bind fun bt334 => (some (bt328.1, bt334.1)))) else ((spec_l1Cur_pick.f l0 bt322.2.1 bt322.2.2 8).bind fun bt337 => (spec_DrawLeastBoth.l0 k 0 1 bt337.1 l0 bt337.2.1 bt337.2.2)))) = some (r1, r2) := h
 clear h
 replace H := Option.bind_eq_some_iff.mp H
 obtain ⟨⟨t322, t323, t324⟩, A20, H⟩ := H
 dsimp only at H
 have A2 := Aside0.mk A20
 clear A20
 by_cases c3 : t322 = true
 · subst c3
   have H1 : ((spec_l1Cur_among.f l0 t323 t324 (([(-1), 0, 1, 108, 109] : List Int))).bind fun bt328 => ((spec_l1Cur_among.f l0 bt328.2.1 bt328.2.2 (([(-1), 0, 1, 282429536481, 1000000000000, 1000000000001] : List Int))).bind fun bt334 => (some (bt328.1, bt334.1)))) = some (r1, r2) := by rw [if_pos rfl] at H; exact H
   clear H
   have H := H1
   clear H1
   obtain ⟨y325, hy325⟩ : ∃ y_ : List Int, y_ = (([(-1), 0, 1, 108, 109] : List Int)) := ⟨_, rfl⟩
   replace H : ((spec_l1Cur_among.f l0 t323 t324 y325).bind fun bt328 => ((spec_l1Cur_among.f l0 bt328.2.1 bt328.2.2 (([(-1), 0, 1, 282429536481, 1000000000000, 1000000000001] : List Int))).bind fun bt334 => (some (bt328.1, bt334.1)))) = some (r1, r2) := by first | (rw [hy325]; with_reducible exact H) | (have H2_ := (Option.bind_some _ _).symm.trans H; rw [hy325]; with_reducible exact H2_) | (have H2_ := (Option.bind_some _ _).symm.trans H; with_reducible exact H2_) | with_reducible exact H | (rw [hy325]; exact H) | exact H
   have Ny325 := Aside0.mk hy325
   clear hy325
   replace H := Option.bind_eq_some_iff.mp H
   obtain ⟨⟨t328, t329, t330⟩, A40, H⟩ := H
   dsimp only at H
   have A4 := Aside0.mk A40
   clear A40
   obtain ⟨y331, hy331⟩ : ∃ y_ : List Int, y_ = (([(-1), 0, 1, 282429536481, 1000000000000, 1000000000001] : List Int)) := ⟨_, rfl⟩
   replace H : ((spec_l1Cur_among.f l0 t329 t330 y331).bind fun bt334 => (some (t328, bt334.1))) = some (r1, r2) := by first | (rw [hy331]; with_reducible exact H) | (have H2_ := (Option.bind_some _ _).symm.trans H; rw [hy331]; with_reducible exact H2_) | (have H2_ := (Option.bind_some _ _).symm.trans H; with_reducible exact H2_) | with_reducible exact H | (rw [hy331]; exact H) | exact H
   have Ny331 := Aside0.mk hy331
   clear hy331
   replace H := Option.bind_eq_some_iff.mp H
   obtain ⟨⟨t334, t335, t336⟩, A50, H⟩ := H
   dsimp only at H
   have A5 := Aside0.mk A50
   clear A50
   simp only [Option.some.injEq, Prod.mk.injEq] at H
   obtain ⟨rfl, rfl⟩ := H
   go_enter Tryz.func25, Tryz.ntmps25
   go_wp2_with (first | ((with_reducible refine gate_dst (N := 11) rfl ?_); refine box_event ?hg (N := 11) ?hd (cs := #[.slice A0 l0.length c0, .int .i64 0, .int .u64 0]) (t := 41) ?hr ?_; (case hd => rfl); (case hg => rfl); (case hr => first | (go_simp; done) | (go_simp; rfl)); intro gb321 hg w6 hbox hb; have n0_ := Aside0.mk (below_step z7_0_ hb); have n1_ := Aside0.mk ((⟨_, _, hbox, (by rw [hg]; exact (below_size z7_0_) : w.heap.size ≤ gb321), HR0.out⟩ : IsS41 w w6 gb321 l0 0 0)); clear HB; have HB := n0_; have HI321 := n1_; clear n0_ n1_; clear hb hbox hg) | ((with_reducible refine gate_callee (f := 63) rfl ?_); refine goesL_ (some 13) rfl rfl Tryz.func63 (by kernel_rfl) rfl #[.pointer (some ⟨gb321, 0, none⟩), .int .i64 6] rfl z7_1_ ?_; (with_reducible refine (spec_l1Cur_one.calls gb321 l0 0 0 6 true t323 t324 w _ ?side1 ?side2 A2.out).mono ?_); (case side1 => repeat (first | (with_reducible first | exact HI321.out | apply IsS41.alloc | apply IsS41.drewN | apply IsS41.drew | apply IsS41.set_1 | apply IsS41.set_2) | exact HI321.out)); (case side2 => repeat (first | (with_reducible first | exact HB.out | apply below_alloc | apply pw_below_drewN | apply below_drew1 | refine below_set ?_ (IsS41.ge HI321.out)) | exact HB.out)); rintro e w7 ⟨rfl, hi, hb, hk⟩; refine ⟨_, rfl, ?_⟩; have n0_ := Aside0.mk (hb); have n1_ := Aside0.mk (hi); clear HB; clear HI321; have HB := n0_; have HI321 := n1_; clear n0_ n1_; (try clear hb); (try clear hb2); (try clear hk); (try clear hi)) | ((with_reducible refine gate_dst (N := 15) rfl ?_); refine Kd.R_lit (Kd.int .i64) _ 3 ?hg (N := 15) ?hd (xs := ([(-1), 0, 1, 108, 109] : List Int)) (inner := [.int .i64 (-1), .int .i64 0, .int .i64 1, .int .i64 108, .int .i64 109]) (ok := fun _ => True) (okp := fun _ => True) ?hr ?hp (fun _ hk => hk) trivial (Below.refl _ _) (Nat.le_refl _) (by simp) ?_; (case hd => rfl); (case hg => rfl); (case hr => first | (go_simp; done) | (go_simp; rfl)); (case hp => exact (Reps.one (show Kd.M (Kd.int .i64) _ _ _ (-1) [.int .i64 (-1)] from rfl) (Reps.one (show Kd.M (Kd.int .i64) _ _ _ 0 [.int .i64 0] from rfl) (Reps.one (show Kd.M (Kd.int .i64) _ _ _ 1 [.int .i64 1] from rfl) (Reps.one (show Kd.M (Kd.int .i64) _ _ _ 108 [.int .i64 108] from rfl) (Reps.one (show Kd.M (Kd.int .i64) _ _ _ 109 [.int .i64 109] from rfl) (Reps.none _ _))))))); intro v326 w8 ho9 hb hg_ hnew_; clear hg_ hnew_; (first | rw [← Ny325.out] at ho9 | (simp only [Int.reduceToNat] at ho9; rw [← Ny325.out] at ho9)); have n0_ := Aside0.mk (Kd.R_lower ho9 (below_size z7_2_)); have n1_ := Aside0.mk (IsS41.below (by repeat (first | (with_reducible first | exact HI321.out | apply IsS41.alloc | apply IsS41.drewN | apply IsS41.drew | apply IsS41.set_1 | apply IsS41.set_2) | exact HI321.out)) hb); have n2_ := Aside0.mk (below_step z7_2_ hb); clear HI321; clear HB; have HO327 := n0_; have HI321 := n1_; have HB := n2_; clear n0_ n1_ n2_; clear hb ho9; obtain ⟨Ao10, co10, eo10⟩ := Kd.R_slice HO327.out; subst eo10) | ((with_reducible refine gate_callee (f := 64) rfl ?_); refine goesL_ (some 16) rfl rfl Tryz.func64 (by kernel_rfl) rfl #[.pointer (some ⟨gb321, 0, none⟩), .slice Ao10 y325.length co10] rfl z7_1_ ?_; (with_reducible refine (spec_l1Cur_among.calls gb321 l0 t323 t324 _ _ y325 t328 t329 t330 w _ ?side1 ?side2 ?side3 ?side4 ?side5 A4.out).mono ?_); (case side1 => repeat (first | (with_reducible first | exact HI321.out | apply IsS41.alloc | apply IsS41.drewN | apply IsS41.drew | apply IsS41.set_1 | apply IsS41.set_2) | exact HI321.out)); (case side2 => repeat (first | (with_reducible first | exact HB.out | apply below_alloc | apply pw_below_drewN | apply below_drew1 | refine below_set ?_ (IsS41.ge HI321.out)) | exact HB.out)); (case side3 => repeat (first | exact (Kd.R_reads' HO327.out).2.2 | (with_reducible refine Kd.C_alloc ?_ _) | (with_reducible refine Kd.C_drewN ?_ _) | (with_reducible refine Kd.C_drew ?_))); (case side4 => exact (Kd.R_reads' HO327.out).2.1); (case side5 => exact far_slice (IsS41.own_ne HI321.out HO327.out (by decide))); rintro e w11 ⟨rfl, hi, hb, hk⟩; refine ⟨_, rfl, ?_⟩; have n0_ := Aside0.mk (Kd.R_mono (Kd.R_keep (IsS41.apart (show IsS41 w _ gb321 l0 t323 t324 from by repeat (first | (with_reducible first | exact HI321.out | apply IsS41.alloc | apply IsS41.drewN | apply IsS41.drew | apply IsS41.set_1 | apply IsS41.set_2) | exact HI321.out)) z7_4_ (by decide)) hk (fun _ h => h.2)) (fun _ h => h.1)); have n1_ := Aside0.mk (hb); have n2_ := Aside0.mk (hi); clear HO327; clear HB; clear HI321; have HO327 := n0_; have HB := n1_; have HI321 := n2_; clear n0_ n1_ n2_; (try clear hb); (try clear hb2); (try clear hk); (try clear hi)) | ((with_reducible refine gate_dst (N := 18) rfl ?_); refine Kd.R_lit (Kd.int .i64) _ 3 ?hg (N := 18) ?hd (xs := ([(-1), 0, 1, 282429536481, 1000000000000, 1000000000001] : List Int)) (inner := [.int .i64 (-1), .int .i64 0, .int .i64 1, .int .i64 282429536481, .int .i64 1000000000000, .int .i64 1000000000001]) (ok := fun _ => True) (okp := fun _ => True) ?hr ?hp (fun _ hk => hk) trivial (Below.refl _ _) (Nat.le_refl _) (by simp) ?_; (case hd => rfl); (case hg => rfl); (case hr => first | (go_simp; done) | (go_simp; rfl)); (case hp => exact (Reps.one (show Kd.M (Kd.int .i64) _ _ _ (-1) [.int .i64 (-1)] from rfl) (Reps.one (show Kd.M (Kd.int .i64) _ _ _ 0 [.int .i64 0] from rfl) (Reps.one (show Kd.M (Kd.int .i64) _ _ _ 1 [.int .i64 1] from rfl) (Reps.one (show Kd.M (Kd.int .i64) _ _ _ 282429536481 [.int .i64 282429536481] from rfl) (Reps.one (show Kd.M (Kd.int .i64) _ _ _ 1000000000000 [.int .i64 1000000000000] from rfl) (Reps.one (show Kd.M (Kd.int .i64) _ _ _ 1000000000001 [.int .i64 1000000000001] from rfl) (Reps.none _ _)))))))); intro v332 w12 ho13 hb hg_ hnew_; clear hg_ hnew_; (first | rw [← Ny331.out] at ho13 | (simp only [Int.reduceToNat] at ho13; rw [← Ny331.out] at ho13)); have n0_ := Aside0.mk (Kd.R_elder' z7_4_ (Kd.R_base ho13) hb); have n1_ := Aside0.mk (Kd.R_lower (Kd.R_new' ho13 (Kd.R_lt z7_4_)) (below_size z7_2_)); have n2_ := Aside0.mk (IsS41.below (by repeat (first | (with_reducible first | exact HI321.out | apply IsS41.alloc | apply IsS41.drewN | apply IsS41.drew | apply IsS41.set_1 | apply IsS41.set_2) | exact HI321.out)) hb); have n3_ := Aside0.mk (below_step z7_2_ hb); clear HO327; clear HI321; clear HB; have HO327 := n0_; have HO333 := n1_; have HI321 := n2_; have HB := n3_; clear n0_ n1_ n2_ n3_; clear hb ho13; obtain ⟨Ao14, co14, eo14⟩ := Kd.R_slice HO333.out; subst eo14) | ((with_reducible refine gate_callee (f := 64) rfl ?_); refine goesL_ (some 19) rfl rfl Tryz.func64 (by kernel_rfl) rfl #[.pointer (some ⟨gb321, 0, none⟩), .slice Ao14 y331.length co14] rfl z7_1_ ?_; (with_reducible refine (spec_l1Cur_among.calls gb321 l0 t329 t330 _ _ y331 t334 t335 t336 w _ ?side1 ?side2 ?side3 ?side4 ?side5 A5.out).mono ?_); (case side1 => repeat (first | (with_reducible first | exact HI321.out | apply IsS41.alloc | apply IsS41.drewN | apply IsS41.drew | apply IsS41.set_1 | apply IsS41.set_2) | exact HI321.out)); (case side2 => repeat (first | (with_reducible first | exact HB.out | apply below_alloc | apply pw_below_drewN | apply below_drew1 | refine below_set ?_ (IsS41.ge HI321.out)) | exact HB.out)); (case side3 => repeat (first | exact (Kd.R_reads' HO333.out).2.2 | (with_reducible refine Kd.C_alloc ?_ _) | (with_reducible refine Kd.C_drewN ?_ _) | (with_reducible refine Kd.C_drew ?_))); (case side4 => exact (Kd.R_reads' HO333.out).2.1); (case side5 => exact far_slice (IsS41.own_ne HI321.out HO333.out (by decide))); rintro e w15 ⟨rfl, hi, hb, hk⟩; refine ⟨_, rfl, ?_⟩; have n0_ := Aside0.mk (Kd.R_mono (Kd.R_keep (IsS41.apart (show IsS41 w _ gb321 l0 t329 t330 from by repeat (first | (with_reducible first | exact HI321.out | apply IsS41.alloc | apply IsS41.drewN | apply IsS41.drew | apply IsS41.set_1 | apply IsS41.set_2) | exact HI321.out)) z7_4_ (by decide)) hk (fun _ h => h.2)) (fun _ h => h.1)); have n1_ := Aside0.mk (Kd.R_mono (Kd.R_keep (IsS41.apart (show IsS41 w _ gb321 l0 t329 t330 from by repeat (first | (with_reducible first | exact HI321.out | apply IsS41.alloc | apply IsS41.drewN | apply IsS41.drew | apply IsS41.set_1 | apply IsS41.set_2) | exact HI321.out)) (by (with_reducible repeat (first | apply Kd.R_alloc | apply Kd.R_drewN | apply Kd.R_drew)); exact HO333.out) (by decide)) hk (fun _ h => h.2)) (fun _ h => h.1)); have n2_ := Aside0.mk (hb); have n3_ := Aside0.mk (hi); clear HO327; clear HO333; clear HB; clear HI321; have HO327 := n0_; have HO333 := n1_; have HB := n2_; have HI321 := n3_; clear n0_ n1_ n2_ n3_; (try clear hb); (try clear hb2); (try clear hk); (try clear hi)))
   go_ret2
   exact ⟨by first | rfl | (simp [errW_none, errW_some] <;> rfl) | (simp [*, errW_none, errW_some] <;> rfl), by repeat (first | (with_reducible first | exact HB.out | apply below_alloc | apply pw_below_drewN | apply below_drew1 | refine below_set ?_ (IsS41.ge HI321.out)) | exact HB.out)⟩
 replace c3 := Bool.eq_false_iff.mpr c3
 subst c3
 have H1 : ((spec_l1Cur_pick.f l0 t323 t324 8).bind fun bt337 => (spec_DrawLeastBoth.l0 k 0 1 bt337.1 l0 bt337.2.1 bt337.2.2)) = some (r1, r2) := by rw [if_neg (show ¬ (false = true) by decide)] at H; exact H
 clear H
 have H := H1
 clear H1
 replace H := Option.bind_eq_some_iff.mp H
 obtain ⟨⟨t337, t338, t339⟩, A160, H⟩ := H
 dsimp only at H
 have A16 := Aside0.mk A160
 clear A160
 have H' := Aside0.mk H
 clear H
 go_enter Tryz.func25, Tryz.ntmps25
 go_wp2_with (first | ((with_reducible refine gate_dst (N := 11) rfl ?_); refine box_event ?hg (N := 11) ?hd (cs := #[.slice A0 l0.length c0, .int .i64 0, .int .u64 0]) (t := 41) ?hr ?_; (case hd => rfl); (case hg => rfl); (case hr => first | (go_simp; done) | (go_simp; rfl)); intro gb321 hg w17 hbox hb; have n0_ := Aside0.mk (below_step z7_0_ hb); have n1_ := Aside0.mk ((⟨_, _, hbox, (by rw [hg]; exact (below_size z7_0_) : w.heap.size ≤ gb321), HR0.out⟩ : IsS41 w w17 gb321 l0 0 0)); clear HB; have HB := n0_; have HI321 := n1_; clear n0_ n1_; clear hb hbox hg) | ((with_reducible refine gate_callee (f := 63) rfl ?_); refine goesL_ (some 13) rfl rfl Tryz.func63 (by kernel_rfl) rfl #[.pointer (some ⟨gb321, 0, none⟩), .int .i64 6] rfl z7_1_ ?_; (with_reducible refine (spec_l1Cur_one.calls gb321 l0 0 0 6 false t323 t324 w _ ?side1 ?side2 A2.out).mono ?_); (case side1 => repeat (first | (with_reducible first | exact HI321.out | apply IsS41.alloc | apply IsS41.drewN | apply IsS41.drew | apply IsS41.set_1 | apply IsS41.set_2) | exact HI321.out)); (case side2 => repeat (first | (with_reducible first | exact HB.out | apply below_alloc | apply pw_below_drewN | apply below_drew1 | refine below_set ?_ (IsS41.ge HI321.out)) | exact HB.out)); rintro e w18 ⟨rfl, hi, hb, hk⟩; refine ⟨_, rfl, ?_⟩; have n0_ := Aside0.mk (hb); have n1_ := Aside0.mk (hi); clear HB; clear HI321; have HB := n0_; have HI321 := n1_; clear n0_ n1_; (try clear hb); (try clear hb2); (try clear hk); (try clear hi)) | ((with_reducible refine gate_callee (f := 65) rfl ?_); refine goesL_ (some 21) rfl rfl Tryz.func65 (by kernel_rfl) rfl #[.pointer (some ⟨gb321, 0, none⟩), .int .i64 8] rfl z7_1_ ?_; (with_reducible refine (spec_l1Cur_pick.calls gb321 l0 t323 t324 8 t337 t338 t339 w _ ?side1 ?side2 A16.out).mono ?_); (case side1 => repeat (first | (with_reducible first | exact HI321.out | apply IsS41.alloc | apply IsS41.drewN | apply IsS41.drew | apply IsS41.set_1 | apply IsS41.set_2) | exact HI321.out)); (case side2 => repeat (first | (with_reducible first | exact HB.out | apply below_alloc | apply pw_below_drewN | apply below_drew1 | refine below_set ?_ (IsS41.ge HI321.out)) | exact HB.out)); rintro e w19 ⟨rfl, hi, hb, hk⟩; refine ⟨_, rfl, ?_⟩; have n0_ := Aside0.mk (hb); have n1_ := Aside0.mk (hi); clear HB; clear HI321; have HB := n0_; have HI321 := n1_; clear n0_ n1_; (try clear hb); (try clear hb2); (try clear hk); (try clear hi)))
 go_loopg [5, 6, 7] k (fun kq v5 v6 v7 w' => ∃ (x5_1 : Int) (x6_1 : Int) (x7_1 : Int) (x322001_1 : Int) (x322002_1 : Int), v5 = .int .i64 x5_1 ∧ v6 = .int .i64 x6_1 ∧ v7 = .int .i64 x7_1 ∧ Aside0 (spec_DrawLeastBoth.l0 kq x5_1 x6_1 x7_1 l0 x322001_1 x322002_1 = some (r1, r2)) ∧ Aside0 (kq ≤ k) ∧ Aside0 (IsS41 w w' gb321 l0 x322001_1 x322002_1) ∧ Aside0 (Below w.heap.size w w'))
 case atStart => exact ⟨(0), (1), (t337), (t338), (t339), z7_3_, z7_3_, z7_3_, H', ⟨Nat.le_refl _⟩, ⟨by repeat (first | (with_reducible first | exact HI321.out | apply IsS41.alloc | apply IsS41.drewN | apply IsS41.drew | apply IsS41.set_1 | apply IsS41.set_2) | exact HI321.out)⟩, ⟨by repeat (first | (with_reducible first | exact HB.out | apply below_alloc | apply pw_below_drewN | apply below_drew1 | refine below_set ?_ (IsS41.ge HI321.out)) | exact HB.out)⟩⟩
 case round =>
  clear H'
  (try clear c2);(try clear p2);(try clear c3);(try clear c6)
  obtain ⟨x5_1, x6_1, x7_1, x322001_1, x322002_1, rfl, rfl, rfl, HA, HK1, HI321, HB⟩ := hrel
  cases gk with
  | zero => exact absurd HA.out (by simp [spec_DrawLeastBoth.l0])
  | succ k1 =>
   have H := HA.out
   clear HA
   simp only [spec_DrawLeastBoth.l0] at H
   by_cases c20 : x7_1 > 0
   · rw [if_pos c20] at H
     have c20b0 : decide (0 < x7_1) = true := decide_eq_true c20
     clear c20
     replace H := Option.bind_eq_some_iff.mp H
     obtain ⟨⟨t340, t341, t342⟩, A210, H⟩ := H
     dsimp only at H
     have A21 := Aside0.mk A210
     clear A210
     have H' := Aside0.mk H
     clear H
     go_wp2_with (first | ((with_reducible refine gate_callee (f := 65) rfl ?_); refine goesL_ (some 27) rfl rfl Tryz.func65 (by kernel_rfl) rfl #[.pointer (some ⟨gb321, 0, none⟩), .int .i64 9] rfl z7_1_ ?_; (with_reducible refine (spec_l1Cur_pick.calls gb321 l0 x322001_1 x322002_1 9 t340 t341 t342 w _ ?side1 ?side2 A21.out).mono ?_); (case side1 => repeat (first | (with_reducible first | exact HI321.out | apply IsS41.alloc | apply IsS41.drewN | apply IsS41.drew | apply IsS41.set_1 | apply IsS41.set_2) | exact HI321.out)); (case side2 => repeat (first | (with_reducible first | exact HB.out | apply below_alloc | apply pw_below_drewN | apply below_drew1 | refine below_set ?_ (IsS41.ge HI321.out)) | exact HB.out)); rintro e w22 ⟨rfl, hi, hb, hk⟩; refine ⟨_, rfl, ?_⟩; have n0_ := Aside0.mk (hb); have n1_ := Aside0.mk (hi); clear HB; clear HI321; have HB := n0_; have HI321 := n1_; clear n0_ n1_; (try clear hb); (try clear hb2); (try clear hk); (try clear hi)))
     go_roundg k1
     case measure => have := HK1.out; omega
     case rel => exact ⟨(wrap64 (x5_1 + (wrap64 (1 + t340)))), (wrap64 (x6_1 * (wrap64 (1 + t340)))), (wrap64 (x7_1 - 1)), (t341), (t342), z7_3_, z7_3_, z7_3_, H', ⟨by have := HK1.out; omega⟩, ⟨by repeat (first | (with_reducible first | exact HI321.out | apply IsS41.alloc | apply IsS41.drewN | apply IsS41.drew | apply IsS41.set_1 | apply IsS41.set_2) | exact HI321.out)⟩, ⟨by repeat (first | (with_reducible first | exact HB.out | apply below_alloc | apply pw_below_drewN | apply below_drew1 | refine below_set ?_ (IsS41.ge HI321.out)) | exact HB.out)⟩⟩
   rw [if_neg c20] at H
   have c20b0 : decide (0 < x7_1) = false := decide_eq_false c20
   clear c20
   replace H := Option.bind_eq_some_iff.mp H
   obtain ⟨⟨t343, t344, t345⟩, A230, H⟩ := H
   dsimp only at H
   have A23 := Aside0.mk A230
   clear A230
   simp only [Option.some.injEq, Prod.mk.injEq] at H
   obtain ⟨rfl, rfl⟩ := H
   go_wp2_with (first | ((with_reducible refine gate_callee (f := 65) rfl ?_); refine goesL_ (some 37) rfl rfl Tryz.func65 (by kernel_rfl) rfl #[.pointer (some ⟨gb321, 0, none⟩), .int .i64 9] rfl z7_1_ ?_; (with_reducible refine (spec_l1Cur_pick.calls gb321 l0 x322001_1 x322002_1 9 t343 t344 t345 w _ ?side1 ?side2 A23.out).mono ?_); (case side1 => repeat (first | (with_reducible first | exact HI321.out | apply IsS41.alloc | apply IsS41.drewN | apply IsS41.drew | apply IsS41.set_1 | apply IsS41.set_2) | exact HI321.out)); (case side2 => repeat (first | (with_reducible first | exact HB.out | apply below_alloc | apply pw_below_drewN | apply below_drew1 | refine below_set ?_ (IsS41.ge HI321.out)) | exact HB.out)); rintro e w24 ⟨rfl, hi, hb, hk⟩; refine ⟨_, rfl, ?_⟩; have n0_ := Aside0.mk (hb); have n1_ := Aside0.mk (hi); clear HB; clear HI321; have HB := n0_; have HI321 := n1_; clear n0_ n1_; (try clear hb); (try clear hb2); (try clear hk); (try clear hi)))
   go_ret2
   exact ⟨by first | rfl | (simp [errW_none, errW_some] <;> rfl) | (simp [*, errW_none, errW_some] <;> rfl), by repeat (first | (with_reducible first | exact HB.out | apply below_alloc | apply pw_below_drewN | apply below_drew1 | refine below_set ?_ (IsS41.ge HI321.out)) | exact HB.out)⟩

/-! ### impl_isProduct: function 79 -/
def impl_isProduct.f (a0 : Int) : Option (Bool) := (impl_within.f a0 1 1000000000000).bind fun t346 => (some t346)
set_option maxHeartbeats 8000000 in
set_option maxRecDepth 100000 in
theorem impl_isProduct.calls (a0 : Int) (r : Bool) (w : World) (h : impl_isProduct.f a0 = some r) :
 Calls Tryz.prog 79 #[.int .i64 a0] w fun e w' => e = .returned (.bool r) ∧ Drawn0 w w' := by
 have H : ((impl_within.f a0 1 1000000000000).bind fun t346 => (some t346)) = some r := h
 clear h
 replace H := Option.bind_eq_some_iff.mp H
 obtain ⟨t346, A20, H⟩ := H
 have A2 := Aside0.mk A20
 clear A20
 obtain rfl := Option.some.inj H
 go_enter Tryz.func79, Tryz.ntmps79
 go_wp2_with (first | ((with_reducible refine gate_callee (f := 73) rfl ?_); refine goesL_ (some 4) rfl rfl Tryz.func73 (by kernel_rfl) rfl #[.int .i64 a0, .int .i64 1, .int .i64 1000000000000] rfl z7_1_ ?_; (with_reducible refine (impl_within.calls a0 1 1000000000000 t346 _ A2.out).mono ?_); rintro e w' ⟨rfl, ⟨nd, rfl⟩⟩; refine ⟨_, rfl, ?_⟩))
 go_ret
 exact ⟨by first | rfl | (simp; done) | (simp [*]; done), by repeat (first | exact Drawn0.refl _ | apply Drawn0.step)⟩

/-! ### impl_asLeast: function 81 -/
-- behind 88
def impl_asLeast.f (k : Nat) (xs : List Int) : Option (Int × Bool) := if xs.length > 12 then some (0, false) else (impl_numberOf.f k (strOfNums (SortB.sorted xs))).bind fun r => some (r, true)
theorem impl_asLeast.mono : ∀ xs k, LeO (impl_asLeast.f k xs) (impl_asLeast.f (k + 1) xs) := by
 intro xs k
 unfold impl_asLeast.f
 exact LeO.ite (LeO.refl _) (LeO.bind (impl_numberOf.mono _ _) (fun _ => LeO.refl _))
set_option maxHeartbeats 8000000 in
set_option maxRecDepth 100000 in
open Bytes in
theorem impl_asLeast.calls (k g cap : Nat) (ok : Nat → Prop) (xs : List Int) (r1 : Int) (r2 : Bool) (w w0 : World) (hB : Below w0.heap.size w0 w) (hm : MZ 5 w w0.heap.size ok (.slice (some ⟨g, 0, none⟩) xs.length cap) xs) (hn : xs.length < 4611686018427387904) (h : impl_asLeast.f k xs = some (r1, r2)) :
 Calls Tryz.prog 81 #[.slice (some ⟨g, 0, none⟩) xs.length cap] w fun e w' => e = .returned (.tuple #[.int .i64 r1, .bool r2]) ∧ Below w0.heap.size w0 w' := by
 obtain ⟨ys, hys⟩ : ∃ ys, ys = SortB.sorted xs := ⟨_, rfl⟩
 have hyl : ys.length = xs.length := by rw [hys, SortB.sorted_length]
 unfold impl_asLeast.f at h
 rw [← hys] at h
 have HM := Aside0.mk hm
 have HB := Aside0.mk hB
 have HYS := Aside0.mk hys
 have HYL := Aside0.mk hyl
 have HN := Aside0.mk hn
 clear hm hB hys hyl hn
 by_cases c : xs.length > 12
 · rw [if_pos c] at h
   simp only [Option.some.injEq, Prod.mk.injEq] at h
   obtain ⟨rfl, rfl⟩ := h
   have d1 : decide ((12 : Int) < (xs.length : Int)) = true := decide_eq_true (by omega)
   have d2 : decide (12 < xs.length) = true := decide_eq_true c
   clear c
   go_enter Tryz.func81, Tryz.ntmps81
   go_wp2_with (first | (go_at_call 91; (with_reducible refine (Sort_MZ HB.out HM.out HN.out).mono ?_); rintro e w8 ⟨rfl, ho, hb⟩; rw [← HYS.out] at ho; clear HM HB; have HM := Aside0.mk ho; have HB := Aside0.mk hb; clear ho hb))
   go_ret2
   exact ⟨rfl, HB.out⟩
 rw [if_neg c] at h
 obtain ⟨q, hq, h⟩ := Option.bind_eq_some_iff.mp h
 simp only [Option.some.injEq, Prod.mk.injEq] at h
 obtain ⟨rfl, rfl⟩ := h
 have HQ := Aside0.mk hq
 have d1 : decide ((12 : Int) < (xs.length : Int)) = false := decide_eq_false (by omega)
 have d2 : decide (12 < xs.length) = false := decide_eq_false c
 clear c hq
 go_enter Tryz.func81, Tryz.ntmps81
 go_wp2_with (first | (go_at_call 91; (with_reducible refine (Sort_MZ HB.out HM.out HN.out).mono ?_); rintro e w8 ⟨rfl, ho, hb⟩; rw [← HYS.out] at ho; clear HM HB; have HB := Aside0.mk hb; have hC := (MZ_reads' ho).2.2; rw [HYL.out] at hC; have hcv := Kd.C_string (P := Tryz.prog) (src := 22) (dst := 9) (e := 5) (c := cap) Tryz.underlying22 Tryz.underlying5 Tryz.underlying9 hC; clear ho hb hC) | (go_at_call 88; (with_reducible refine (impl_numberOf.calls k _ q _ HQ.out).mono ?_); rintro e w' ⟨rfl, ⟨nd, rfl⟩⟩))
 go_ret2
 exact ⟨rfl, by repeat (first | exact HB.out | apply pw_below_drewN | apply below_drew1)⟩
set_option maxHeartbeats 8000000 in
set_option maxRecDepth 100000 in
theorem impl_asLeast.calls_nil (k : Nat) (A : Option Addr) (cap : Nat) (r1 : Int) (r2 : Bool) (w : World) (h : impl_asLeast.f k [] = some (r1, r2)) :
 Calls Tryz.prog 81 #[.slice A 0 cap] w fun e w' => e = .returned (.tuple #[.int .i64 r1, .bool r2]) ∧ Below w.heap.size w w' := by
 unfold impl_asLeast.f at h
 rw [if_neg (by simp)] at h
 obtain ⟨q, hq, h⟩ := Option.bind_eq_some_iff.mp h
 simp only [Option.some.injEq, Prod.mk.injEq] at h
 obtain ⟨rfl, rfl⟩ := h
 have hs : SortB.sorted ([] : List Int) = [] := by
  have := SortB.sorted_length ([] : List Int)
  exact List.eq_nil_of_length_eq_zero (by simpa using this)
 rw [hs] at hq
 have HQ := Aside0.mk hq
 have HB := Aside0.mk (Below.refl w.heap.size w)
 have hcv := Kd.C_string (P := Tryz.prog) (w := w) (src := 22) (dst := 9) (e := 5) (c := cap) (A := A) (n := 0) (xs := []) Tryz.underlying22 Tryz.underlying5 Tryz.underlying9 (show (Kd.int .u8).C w A 0 [] from ⟨rfl, by simp, fun h => absurd h (Nat.lt_irrefl 0)⟩)
 clear hq hs
 go_enter Tryz.func81, Tryz.ntmps81
 go_wp2_with (first | (go_at_call 91; (with_reducible refine (SortB.Sort_int_nil A cap _).mono ?_); rintro e w8 ⟨rfl, rfl⟩) | (go_at_call 88; (with_reducible refine (impl_numberOf.calls k _ q _ HQ.out).mono ?_); rintro e w' ⟨rfl, ⟨nd, rfl⟩⟩))
 go_ret2
 exact ⟨rfl, by repeat (first | exact HB.out | apply pw_below_drewN | apply below_drew1)⟩
open Bytes in
theorem impl_asLeast.own (k : Nat) (v : Value) (xs : List Int) (r1 : Int) (r2 : Bool) (w w0 : World) (hB : Below w0.heap.size w0 w) (ho : w.ownsRow w0.heap.size 5 1 v xs.length (nums .u8 xs)) (hn : xs.length < 4611686018427387904) (h : impl_asLeast.f k xs = some (r1, r2)) :
 Calls Tryz.prog 81 #[v] w fun e w' => e = .returned (.tuple #[.int .i64 r1, .bool r2]) ∧ Below w0.heap.size w0 w' := by
 by_cases hp : 0 < xs.length
 · have hm := MZ_of_own (ok := fun _ => True) (fun _ _ => trivial) hp ho
   obtain ⟨g, cap, rfl, _⟩ := MZ_form hm hp
   exact impl_asLeast.calls k g cap _ xs r1 r2 w w0 hB hm hn h
 have hx : xs = [] := List.eq_nil_of_length_eq_zero (by omega)
 subst hx
 rcases ho.2 with ⟨rfl, _⟩ | ⟨g, cap, cur, rfl, hg, hh, r⟩
 · exact (impl_asLeast.calls_nil k none 0 r1 r2 w h).mono fun e w' ⟨h1, h2⟩ => ⟨h1, below_step hB h2⟩
 exact (impl_asLeast.calls_nil k _ cap r1 r2 w h).mono fun e w' ⟨h1, h2⟩ => ⟨h1, below_step hB h2⟩

/-! ### slices_Clone_byte: function 82 -/
def slices_Clone_byte.f (l0 : List Int) : Option (List Int) := if l0.length < 140737488355328 then some l0 else none
set_option maxHeartbeats 8000000 in
set_option maxRecDepth 100000 in
theorem slices_Clone_byte.calls (A0 : Option Addr) (c0 : Nat) (l0 : List (Int)) (r : List (Int)) (w : World) (hr0 : Kd.C (Kd.int .u8) w A0 l0.length l0) (hc0 : l0.length ≤ c0) (h : slices_Clone_byte.f l0 = some r) :
 Calls Tryz.prog 82 #[.slice A0 l0.length c0] w fun e w' => ∃ v0_ : Value, e = .returned (v0_) ∧ Kd.R (Kd.int .u8) 5 w' w.heap.size (fun _ => True) v0_ r ∧ Below w.heap.size w w' := by
 have HR0 := Aside0.mk hr0
 have HC0 := Aside0.mk hc0
 have HB := Aside0.mk (Below.refl w.heap.size w)
 have heq := fun W => Lib.run_eql_slice_nil (P := Tryz.prog) W 22 5 A0 l0.length c0 0 0 Tryz.underlying22
 unfold slices_Clone_byte.f at h
 by_cases hlim : l0.length < 140737488355328
 rotate_left
 · exact none_ (if_neg hlim) h
 rw [if_pos hlim] at h
 obtain rfl := Option.some.inj h
 have LM := Aside0.mk hlim
 clear h hlim
 cases A0 with
 | none =>
  have hl : l0 = [] := by
   have h3 := hr0.2.2
   have : ¬ 0 < l0.length := fun hp => by obtain ⟨ad, e, _⟩ := h3 hp; cases e
   exact List.eq_nil_of_length_eq_zero (by omega)
  have HL := Aside0.mk hl
  clear hl hr0 hc0
  simp only [Option.isNone_none] at heq
  go_enter Tryz.func82, Tryz.ntmps82
  go_wp2
  go_ret
  exact ⟨_, rfl, by rw [HL.out]; exact Kd.R_nil _ _ _ _ _, HB.out⟩
 | some a0 =>
  clear hr0 hc0
  simp only [Option.isNone_some] at heq
  obtain ⟨y101, hy101⟩ : ∃ y_ : List (Int), y_ = (([] : List (Int))) := ⟨_, rfl⟩
  have Ny101 := Aside0.mk hy101
  have LMc2 := Aside0.mk (show y101.length + l0.length < 140737488355328 by rw [hy101]; simpa using LM.out)
  obtain ⟨y104, hy104⟩ : ∃ y_ : List (Int), y_ = (y101 ++ l0) := ⟨_, rfl⟩
  have Ny104 := Aside0.mk hy104
  have NL := Aside0.mk (show y104 = l0 by rw [hy104, hy101]; rfl)
  clear hy101 hy104
  go_enter Tryz.func82, Tryz.ntmps82
  go_wp2_with (first | ((with_reducible refine gate_dst (N := 5) rfl ?_); refine Kd.R_lit (Kd.int .u8) _ 5 ?hg (N := 5) ?hd (xs := ([] : List (Int))) (inner := []) (ok := fun _ => True) (okp := fun _ => True) ?hr ?hp (fun _ hk => hk) trivial (Below.refl _ _) (Nat.le_refl _) (by simp) ?_; (case hd => rfl); (case hg => rfl); (case hr => first | (go_simp; done) | (go_simp; rfl)); (case hp => exact (Reps.none _ _)); intro v102 w3 ho4 hb hg_ hnew_; clear hg_ hnew_; (first | rw [← Ny101.out] at ho4 | (simp only [Int.reduceToNat] at ho4; rw [← Ny101.out] at ho4)); have n0_ := Aside0.mk (Kd.R_lower ho4 (below_size z7_0_)); have n1_ := Aside0.mk (below_step z7_0_ hb); clear HB; have HO103 := n0_; have HB := n1_; clear n0_ n1_; clear hb ho4) | ((with_reducible refine gate_builtin (b := .append) (xs := #[.tmp 5, .tmp 6]) rfl ?_); at_builtin; refine Kd.R_append_rows (Kd.int .u8) (w0 := w) w.heap.size rfl (.tmp 5) (.tmp 6) 22 5 (.int .u8 0) 1 rfl Tryz.underlying22 (by kernel_rfl) rfl (by decide) (by omega) v102 y101 l0 _ _ _ (fun _ => True) (fun _ => False) rfl rfl ?aO ?aR (fun _ _ h => h) (fun _ h => h.elim) ?aF ?aB ?aS ?aL ?_; (case aR => repeat (first | exact (Kd.C_below HR0.out HB.out) | (with_reducible refine Kd.C_alloc ?_ _) | (with_reducible refine Kd.C_drewN ?_ _) | (with_reducible refine Kd.C_drew ?_))); (case aB => exact z7_0_); (case aF => exact (fun _ _ => trivial)); (case aO => exact (by (with_reducible repeat (first | apply Kd.R_alloc | apply Kd.R_drewN | apply Kd.R_drew)); exact HO103.out)); (case aS => exact (below_size z7_0_)); (case aL => have := LMc2.out; omega); intro v105 w5 ho hb hg hat; rw [← Ny104.out] at ho; have n0_ := Aside0.mk (hb); have n1_ := Aside0.mk (ho); clear HB; clear HO103; have HB := n0_; have HO106 := n1_; clear n0_ n1_; clear ho hb hg hat))
  go_ret
  exact ⟨_, rfl, by (with_reducible repeat (first | apply Kd.R_alloc | apply Kd.R_drewN | apply Kd.R_drew)); rw [← NL.out]; exact HO106.out, by repeat (first | (with_reducible first | exact HB.out | apply below_alloc | apply pw_below_drewN | apply below_drew1) | exact HB.out)⟩

end Go.Proofs.YtogonichanoeaaaGreatDoor.PFnLeastOfSums

-- Laid by this session's program gprint.py over the kit's print.
import Derived.Test.YtogonichanoeaaaGreatDoorPFnLeastOfSumsx0
import Derived.Test.YtogonichanoeaaaGreatDoorPFnLeastOfSumsx1
import Derived.Test.YtogonichanoeaaaGreatDoorPFnLeastOfSumsx2
import Derived.Test.YtogonichanoeaaaGreatDoorPFnLeastOfSumsx3
namespace Go.Proofs.YtogonichanoeaaaGreatDoor.PFnLeastOfSums
open Go.RowKit Go.Proofs.YtogonichanoeaaaGreatDoorW.PrintWords Go.Proofs.YtogonichanoeaaaGreatDoorW.PrintLast Go.Proofs.YtogonichanoeaaaGreatDoorW.PrintMore
attribute [local go_sem] max2_int min2_int max_two min_two max_three min_three max_four min_four   -- for this text's walks alone
set_option linter.unusedVariables false
set_option linter.unusedSimpArgs false
theorem z4_0_ {p : Prop} (h : p := by (try simp only [List.map_toArray, List.map_cons, List.map_nil]); first | done | rfl | (simp only [List.length_drop, List.length_take]; rfl)) : p := h
theorem z4_1_ {p : Prop} (h : p := by repeat (first | (with_reducible first | exact HB.out | apply below_alloc | apply pw_below_drewN | apply below_drew1) | exact HB.out)) : p := h
theorem z4_2_ {p : Prop} (h : p := by first | rfl | (simp; done) | (simp [*]; done)) : p := h
theorem z4_3_ {p : Prop} (h : p := by repeat (first | (with_reducible first | exact HB.out | apply below_alloc | apply pw_below_drewN | apply below_drew1 | refine below_set ?_ (IsS41.ge HI228.out)) | exact HB.out)) : p := h
theorem z4_4_ {p : Prop} (h : p := by (with_reducible repeat (first | apply Kd.R_alloc | apply Kd.R_drewN | apply Kd.R_drew)); exact HO234.out) : p := h
theorem z4_5_ {p : Prop} (h : p := by first | (with_reducible assumption) | assumption) : p := h

/-! ### spec_DrawLeastOfDigits: function 69 -/
def spec_DrawLeastOfDigits.f (l0 : List Int) : Option (Int × Int) := (spec_l1Cur_one.f l0 0 0 8).bind fun bt229 => (if bt229.1 = true then ((spec_l1Cur_among.f l0 bt229.2.1 bt229.2.2 (([(-1), 0, 1, 12, 13] : List Int))).bind fun bt235 => ((spec_l1Cur_among.f l0 bt235.2.1 bt235.2.2 (([(-1), 0, 1, 108, 109] : List Int))).bind fun bt241 => (some (bt235.1, bt241.1)))) else ((spec_l1Cur_pick.f l0 bt229.2.1 bt229.2.2 8).bind fun bt244 => ((spec_l1Cur_pick.f l0 bt244.2.1 bt244.2.2 (wrap64 ((wrap64 (9 * (wrap64 (1 + bt244.1)))) + 2))).bind fun bt247 => (some (wrap64 (1 + bt244.1), bt247.1)))))
set_option maxHeartbeats 8000000 in
set_option maxRecDepth 100000 in
theorem spec_DrawLeastOfDigits.calls (A0 : Option Addr) (c0 : Nat) (l0 : List Int) (r1 : Int) (r2 : Int) (w : World) (hr0 : Kd.C (Kd.int .u8) w A0 l0.length l0) (hc0 : l0.length ≤ c0) (h : spec_DrawLeastOfDigits.f l0 = some (r1, r2)) :
 Calls Tryz.prog 69 #[.slice A0 l0.length c0] w fun e w' => e = .returned (.tuple #[.int .i64 r1, .int .i64 r2]) ∧ Below w.heap.size w w' := by
 have hu41 := Tryz.underlying41
 have HR0 := Aside0.mk hr0
 have HC0 := Aside0.mk hc0
 clear hr0 hc0
 have HB := Aside0.mk (Below.refl w.heap.size w)
 have H : ((spec_l1Cur_one.f l0 0 0 8).bind fun bt229 => (if bt229.1 = true then ((spec_l1Cur_among.f l0 bt229.2.1 bt229.2.2 (([(-1), 0, 1, 12, 13] : List Int))).bind fun bt235 => ((spec_l1Cur_among.f l0 bt235.2.1 bt235.2.2 (([(-1), 0, 1, 108, 109] : List Int))).bind fun bt241 => (some (bt235.1, bt241.1)))) else ((spec_l1Cur_pick.f l0 bt229.2.1 bt229.2.2 8).bind fun bt244 => ((spec_l1Cur_pick.f l0 bt244.2.1 bt244.2.2 (wrap64 ((wrap64 (9 * (wrap64 (1 + bt244.1)))) + 2))).bind fun bt247 => (some (wrap64 (1 + bt244.1), bt247.1)))))) = some (r1, r2) := h
 clear h
 replace H := Option.bind_eq_some_iff.mp H
 obtain ⟨⟨t229, t230, t231⟩, A20, H⟩ := H
 dsimp only at H
 have A2 := Aside0.mk A20
 clear A20
 by_cases c3 : t229 = true
 · subst c3
   have H1 : ((spec_l1Cur_among.f l0 t230 t231 (([(-1), 0, 1, 12, 13] : List Int))).bind fun bt235 => ((spec_l1Cur_among.f l0 bt235.2.1 bt235.2.2 (([(-1), 0, 1, 108, 109] : List Int))).bind fun bt241 => (some (bt235.1, bt241.1)))) = some (r1, r2) := by rw [if_pos rfl] at H; exact H
   clear H
   have H := H1
   clear H1
   obtain ⟨y232, hy232⟩ : ∃ y_ : List Int, y_ = (([(-1), 0, 1, 12, 13] : List Int)) := ⟨_, rfl⟩
   replace H : ((spec_l1Cur_among.f l0 t230 t231 y232).bind fun bt235 => ((spec_l1Cur_among.f l0 bt235.2.1 bt235.2.2 (([(-1), 0, 1, 108, 109] : List Int))).bind fun bt241 => (some (bt235.1, bt241.1)))) = some (r1, r2) := by first | (rw [hy232]; with_reducible exact H) | (have H2_ := (Option.bind_some _ _).symm.trans H; rw [hy232]; with_reducible exact H2_) | (have H2_ := (Option.bind_some _ _).symm.trans H; with_reducible exact H2_) | with_reducible exact H | (rw [hy232]; exact H) | exact H
   have Ny232 := Aside0.mk hy232
   clear hy232
   replace H := Option.bind_eq_some_iff.mp H
   obtain ⟨⟨t235, t236, t237⟩, A40, H⟩ := H
   dsimp only at H
   have A4 := Aside0.mk A40
   clear A40
   obtain ⟨y238, hy238⟩ : ∃ y_ : List Int, y_ = (([(-1), 0, 1, 108, 109] : List Int)) := ⟨_, rfl⟩
   replace H : ((spec_l1Cur_among.f l0 t236 t237 y238).bind fun bt241 => (some (t235, bt241.1))) = some (r1, r2) := by first | (rw [hy238]; with_reducible exact H) | (have H2_ := (Option.bind_some _ _).symm.trans H; rw [hy238]; with_reducible exact H2_) | (have H2_ := (Option.bind_some _ _).symm.trans H; with_reducible exact H2_) | with_reducible exact H | (rw [hy238]; exact H) | exact H
   have Ny238 := Aside0.mk hy238
   clear hy238
   replace H := Option.bind_eq_some_iff.mp H
   obtain ⟨⟨t241, t242, t243⟩, A50, H⟩ := H
   dsimp only at H
   have A5 := Aside0.mk A50
   clear A50
   simp only [Option.some.injEq, Prod.mk.injEq] at H
   obtain ⟨rfl, rfl⟩ := H
   go_enter Tryz.func69, Tryz.ntmps69
   go_wp2_with (first | ((with_reducible refine gate_dst (N := 8) rfl ?_); refine box_event ?hg (N := 8) ?hd (cs := #[.slice A0 l0.length c0, .int .i64 0, .int .u64 0]) (t := 41) ?hr ?_; (case hd => rfl); (case hg => rfl); (case hr => first | (go_simp; done) | (go_simp; rfl)); intro gb228 hg w6 hbox hb; have n0_ := Aside0.mk (below_step z4_1_ hb); have n1_ := Aside0.mk ((⟨_, _, hbox, (by rw [hg]; exact (below_size z4_1_) : w.heap.size ≤ gb228), HR0.out⟩ : IsS41 w w6 gb228 l0 0 0)); clear HB; have HB := n0_; have HI228 := n1_; clear n0_ n1_; clear hb hbox hg) | ((with_reducible refine gate_callee (f := 63) rfl ?_); refine goesL_ (some 10) rfl rfl Tryz.func63 (by kernel_rfl) rfl #[.pointer (some ⟨gb228, 0, none⟩), .int .i64 8] rfl z4_0_ ?_; (with_reducible refine (spec_l1Cur_one.calls gb228 l0 0 0 8 true t230 t231 w _ ?side1 ?side2 A2.out).mono ?_); (case side1 => repeat (first | (with_reducible first | exact HI228.out | apply IsS41.alloc | apply IsS41.drewN | apply IsS41.drew | apply IsS41.set_1 | apply IsS41.set_2) | exact HI228.out)); (case side2 => repeat (first | (with_reducible first | exact HB.out | apply below_alloc | apply pw_below_drewN | apply below_drew1 | refine below_set ?_ (IsS41.ge HI228.out)) | exact HB.out)); rintro e w7 ⟨rfl, hi, hb, hk⟩; refine ⟨_, rfl, ?_⟩; have n0_ := Aside0.mk (hb); have n1_ := Aside0.mk (hi); clear HB; clear HI228; have HB := n0_; have HI228 := n1_; clear n0_ n1_; (try clear hb); (try clear hb2); (try clear hk); (try clear hi)) | ((with_reducible refine gate_dst (N := 12) rfl ?_); refine Kd.R_lit (Kd.int .i64) _ 3 ?hg (N := 12) ?hd (xs := ([(-1), 0, 1, 12, 13] : List Int)) (inner := [.int .i64 (-1), .int .i64 0, .int .i64 1, .int .i64 12, .int .i64 13]) (ok := fun _ => True) (okp := fun _ => True) ?hr ?hp (fun _ hk => hk) trivial (Below.refl _ _) (Nat.le_refl _) (by simp) ?_; (case hd => rfl); (case hg => rfl); (case hr => first | (go_simp; done) | (go_simp; rfl)); (case hp => exact (Reps.one (show Kd.M (Kd.int .i64) _ _ _ (-1) [.int .i64 (-1)] from rfl) (Reps.one (show Kd.M (Kd.int .i64) _ _ _ 0 [.int .i64 0] from rfl) (Reps.one (show Kd.M (Kd.int .i64) _ _ _ 1 [.int .i64 1] from rfl) (Reps.one (show Kd.M (Kd.int .i64) _ _ _ 12 [.int .i64 12] from rfl) (Reps.one (show Kd.M (Kd.int .i64) _ _ _ 13 [.int .i64 13] from rfl) (Reps.none _ _))))))); intro v233 w8 ho9 hb hg_ hnew_; clear hg_ hnew_; (first | rw [← Ny232.out] at ho9 | (simp only [Int.reduceToNat] at ho9; rw [← Ny232.out] at ho9)); have n0_ := Aside0.mk (Kd.R_lower ho9 (below_size z4_3_)); have n1_ := Aside0.mk (IsS41.below (by repeat (first | (with_reducible first | exact HI228.out | apply IsS41.alloc | apply IsS41.drewN | apply IsS41.drew | apply IsS41.set_1 | apply IsS41.set_2) | exact HI228.out)) hb); have n2_ := Aside0.mk (below_step z4_3_ hb); clear HI228; clear HB; have HO234 := n0_; have HI228 := n1_; have HB := n2_; clear n0_ n1_ n2_; clear hb ho9; obtain ⟨Ao10, co10, eo10⟩ := Kd.R_slice HO234.out; subst eo10) | ((with_reducible refine gate_callee (f := 64) rfl ?_); refine goesL_ (some 13) rfl rfl Tryz.func64 (by kernel_rfl) rfl #[.pointer (some ⟨gb228, 0, none⟩), .slice Ao10 y232.length co10] rfl z4_0_ ?_; (with_reducible refine (spec_l1Cur_among.calls gb228 l0 t230 t231 _ _ y232 t235 t236 t237 w _ ?side1 ?side2 ?side3 ?side4 ?side5 A4.out).mono ?_); (case side1 => repeat (first | (with_reducible first | exact HI228.out | apply IsS41.alloc | apply IsS41.drewN | apply IsS41.drew | apply IsS41.set_1 | apply IsS41.set_2) | exact HI228.out)); (case side2 => repeat (first | (with_reducible first | exact HB.out | apply below_alloc | apply pw_below_drewN | apply below_drew1 | refine below_set ?_ (IsS41.ge HI228.out)) | exact HB.out)); (case side3 => repeat (first | exact (Kd.R_reads' HO234.out).2.2 | (with_reducible refine Kd.C_alloc ?_ _) | (with_reducible refine Kd.C_drewN ?_ _) | (with_reducible refine Kd.C_drew ?_))); (case side4 => exact (Kd.R_reads' HO234.out).2.1); (case side5 => exact far_slice (IsS41.own_ne HI228.out HO234.out (by decide))); rintro e w11 ⟨rfl, hi, hb, hk⟩; refine ⟨_, rfl, ?_⟩; have n0_ := Aside0.mk (Kd.R_mono (Kd.R_keep (IsS41.apart (show IsS41 w _ gb228 l0 t230 t231 from by repeat (first | (with_reducible first | exact HI228.out | apply IsS41.alloc | apply IsS41.drewN | apply IsS41.drew | apply IsS41.set_1 | apply IsS41.set_2) | exact HI228.out)) z4_4_ (by decide)) hk (fun _ h => h.2)) (fun _ h => h.1)); have n1_ := Aside0.mk (hb); have n2_ := Aside0.mk (hi); clear HO234; clear HB; clear HI228; have HO234 := n0_; have HB := n1_; have HI228 := n2_; clear n0_ n1_ n2_; (try clear hb); (try clear hb2); (try clear hk); (try clear hi)) | ((with_reducible refine gate_dst (N := 15) rfl ?_); refine Kd.R_lit (Kd.int .i64) _ 3 ?hg (N := 15) ?hd (xs := ([(-1), 0, 1, 108, 109] : List Int)) (inner := [.int .i64 (-1), .int .i64 0, .int .i64 1, .int .i64 108, .int .i64 109]) (ok := fun _ => True) (okp := fun _ => True) ?hr ?hp (fun _ hk => hk) trivial (Below.refl _ _) (Nat.le_refl _) (by simp) ?_; (case hd => rfl); (case hg => rfl); (case hr => first | (go_simp; done) | (go_simp; rfl)); (case hp => exact (Reps.one (show Kd.M (Kd.int .i64) _ _ _ (-1) [.int .i64 (-1)] from rfl) (Reps.one (show Kd.M (Kd.int .i64) _ _ _ 0 [.int .i64 0] from rfl) (Reps.one (show Kd.M (Kd.int .i64) _ _ _ 1 [.int .i64 1] from rfl) (Reps.one (show Kd.M (Kd.int .i64) _ _ _ 108 [.int .i64 108] from rfl) (Reps.one (show Kd.M (Kd.int .i64) _ _ _ 109 [.int .i64 109] from rfl) (Reps.none _ _))))))); intro v239 w12 ho13 hb hg_ hnew_; clear hg_ hnew_; (first | rw [← Ny238.out] at ho13 | (simp only [Int.reduceToNat] at ho13; rw [← Ny238.out] at ho13)); have n0_ := Aside0.mk (Kd.R_elder' z4_4_ (Kd.R_base ho13) hb); have n1_ := Aside0.mk (Kd.R_lower (Kd.R_new' ho13 (Kd.R_lt z4_4_)) (below_size z4_3_)); have n2_ := Aside0.mk (IsS41.below (by repeat (first | (with_reducible first | exact HI228.out | apply IsS41.alloc | apply IsS41.drewN | apply IsS41.drew | apply IsS41.set_1 | apply IsS41.set_2) | exact HI228.out)) hb); have n3_ := Aside0.mk (below_step z4_3_ hb); clear HO234; clear HI228; clear HB; have HO234 := n0_; have HO240 := n1_; have HI228 := n2_; have HB := n3_; clear n0_ n1_ n2_ n3_; clear hb ho13; obtain ⟨Ao14, co14, eo14⟩ := Kd.R_slice HO240.out; subst eo14) | ((with_reducible refine gate_callee (f := 64) rfl ?_); refine goesL_ (some 16) rfl rfl Tryz.func64 (by kernel_rfl) rfl #[.pointer (some ⟨gb228, 0, none⟩), .slice Ao14 y238.length co14] rfl z4_0_ ?_; (with_reducible refine (spec_l1Cur_among.calls gb228 l0 t236 t237 _ _ y238 t241 t242 t243 w _ ?side1 ?side2 ?side3 ?side4 ?side5 A5.out).mono ?_); (case side1 => repeat (first | (with_reducible first | exact HI228.out | apply IsS41.alloc | apply IsS41.drewN | apply IsS41.drew | apply IsS41.set_1 | apply IsS41.set_2) | exact HI228.out)); (case side2 => repeat (first | (with_reducible first | exact HB.out | apply below_alloc | apply pw_below_drewN | apply below_drew1 | refine below_set ?_ (IsS41.ge HI228.out)) | exact HB.out)); (case side3 => repeat (first | exact (Kd.R_reads' HO240.out).2.2 | (with_reducible refine Kd.C_alloc ?_ _) | (with_reducible refine Kd.C_drewN ?_ _) | (with_reducible refine Kd.C_drew ?_))); (case side4 => exact (Kd.R_reads' HO240.out).2.1); (case side5 => exact far_slice (IsS41.own_ne HI228.out HO240.out (by decide))); rintro e w15 ⟨rfl, hi, hb, hk⟩; refine ⟨_, rfl, ?_⟩; have n0_ := Aside0.mk (Kd.R_mono (Kd.R_keep (IsS41.apart (show IsS41 w _ gb228 l0 t236 t237 from by repeat (first | (with_reducible first | exact HI228.out | apply IsS41.alloc | apply IsS41.drewN | apply IsS41.drew | apply IsS41.set_1 | apply IsS41.set_2) | exact HI228.out)) z4_4_ (by decide)) hk (fun _ h => h.2)) (fun _ h => h.1)); have n1_ := Aside0.mk (Kd.R_mono (Kd.R_keep (IsS41.apart (show IsS41 w _ gb228 l0 t236 t237 from by repeat (first | (with_reducible first | exact HI228.out | apply IsS41.alloc | apply IsS41.drewN | apply IsS41.drew | apply IsS41.set_1 | apply IsS41.set_2) | exact HI228.out)) (by (with_reducible repeat (first | apply Kd.R_alloc | apply Kd.R_drewN | apply Kd.R_drew)); exact HO240.out) (by decide)) hk (fun _ h => h.2)) (fun _ h => h.1)); have n2_ := Aside0.mk (hb); have n3_ := Aside0.mk (hi); clear HO234; clear HO240; clear HB; clear HI228; have HO234 := n0_; have HO240 := n1_; have HB := n2_; have HI228 := n3_; clear n0_ n1_ n2_ n3_; (try clear hb); (try clear hb2); (try clear hk); (try clear hi)))
   go_ret2
   exact ⟨by first | rfl | (simp [errW_none, errW_some] <;> rfl) | (simp [*, errW_none, errW_some] <;> rfl), by repeat (first | (with_reducible first | exact HB.out | apply below_alloc | apply pw_below_drewN | apply below_drew1 | refine below_set ?_ (IsS41.ge HI228.out)) | exact HB.out)⟩
 replace c3 := Bool.eq_false_iff.mpr c3
 subst c3
 have H1 : ((spec_l1Cur_pick.f l0 t230 t231 8).bind fun bt244 => ((spec_l1Cur_pick.f l0 bt244.2.1 bt244.2.2 (wrap64 ((wrap64 (9 * (wrap64 (1 + bt244.1)))) + 2))).bind fun bt247 => (some (wrap64 (1 + bt244.1), bt247.1)))) = some (r1, r2) := by rw [if_neg (show ¬ (false = true) by decide)] at H; exact H
 clear H
 have H := H1
 clear H1
 replace H := Option.bind_eq_some_iff.mp H
 obtain ⟨⟨t244, t245, t246⟩, A160, H⟩ := H
 dsimp only at H
 have A16 := Aside0.mk A160
 clear A160
 replace H := Option.bind_eq_some_iff.mp H
 obtain ⟨⟨t247, t248, t249⟩, A170, H⟩ := H
 dsimp only at H
 have A17 := Aside0.mk A170
 clear A170
 simp only [Option.some.injEq, Prod.mk.injEq] at H
 obtain ⟨rfl, rfl⟩ := H
 go_enter Tryz.func69, Tryz.ntmps69
 go_wp2_with (first | ((with_reducible refine gate_dst (N := 8) rfl ?_); refine box_event ?hg (N := 8) ?hd (cs := #[.slice A0 l0.length c0, .int .i64 0, .int .u64 0]) (t := 41) ?hr ?_; (case hd => rfl); (case hg => rfl); (case hr => first | (go_simp; done) | (go_simp; rfl)); intro gb228 hg w18 hbox hb; have n0_ := Aside0.mk (below_step z4_1_ hb); have n1_ := Aside0.mk ((⟨_, _, hbox, (by rw [hg]; exact (below_size z4_1_) : w.heap.size ≤ gb228), HR0.out⟩ : IsS41 w w18 gb228 l0 0 0)); clear HB; have HB := n0_; have HI228 := n1_; clear n0_ n1_; clear hb hbox hg) | ((with_reducible refine gate_callee (f := 63) rfl ?_); refine goesL_ (some 10) rfl rfl Tryz.func63 (by kernel_rfl) rfl #[.pointer (some ⟨gb228, 0, none⟩), .int .i64 8] rfl z4_0_ ?_; (with_reducible refine (spec_l1Cur_one.calls gb228 l0 0 0 8 false t230 t231 w _ ?side1 ?side2 A2.out).mono ?_); (case side1 => repeat (first | (with_reducible first | exact HI228.out | apply IsS41.alloc | apply IsS41.drewN | apply IsS41.drew | apply IsS41.set_1 | apply IsS41.set_2) | exact HI228.out)); (case side2 => repeat (first | (with_reducible first | exact HB.out | apply below_alloc | apply pw_below_drewN | apply below_drew1 | refine below_set ?_ (IsS41.ge HI228.out)) | exact HB.out)); rintro e w19 ⟨rfl, hi, hb, hk⟩; refine ⟨_, rfl, ?_⟩; have n0_ := Aside0.mk (hb); have n1_ := Aside0.mk (hi); clear HB; clear HI228; have HB := n0_; have HI228 := n1_; clear n0_ n1_; (try clear hb); (try clear hb2); (try clear hk); (try clear hi)) | ((with_reducible refine gate_callee (f := 65) rfl ?_); refine goesL_ (some 18) rfl rfl Tryz.func65 (by kernel_rfl) rfl #[.pointer (some ⟨gb228, 0, none⟩), .int .i64 8] rfl z4_0_ ?_; (with_reducible refine (spec_l1Cur_pick.calls gb228 l0 t230 t231 8 t244 t245 t246 w _ ?side1 ?side2 A16.out).mono ?_); (case side1 => repeat (first | (with_reducible first | exact HI228.out | apply IsS41.alloc | apply IsS41.drewN | apply IsS41.drew | apply IsS41.set_1 | apply IsS41.set_2) | exact HI228.out)); (case side2 => repeat (first | (with_reducible first | exact HB.out | apply below_alloc | apply pw_below_drewN | apply below_drew1 | refine below_set ?_ (IsS41.ge HI228.out)) | exact HB.out)); rintro e w20 ⟨rfl, hi, hb, hk⟩; refine ⟨_, rfl, ?_⟩; have n0_ := Aside0.mk (hb); have n1_ := Aside0.mk (hi); clear HB; clear HI228; have HB := n0_; have HI228 := n1_; clear n0_ n1_; (try clear hb); (try clear hb2); (try clear hk); (try clear hi)) | ((with_reducible refine gate_callee (f := 65) rfl ?_); refine goesL_ (some 25) rfl rfl Tryz.func65 (by kernel_rfl) rfl #[.pointer (some ⟨gb228, 0, none⟩), .int .i64 (wrap64 ((wrap64 (9 * (wrap64 (1 + t244)))) + 2))] rfl z4_0_ ?_; (with_reducible refine (spec_l1Cur_pick.calls gb228 l0 t245 t246 (wrap64 ((wrap64 (9 * (wrap64 (1 + t244)))) + 2)) t247 t248 t249 w _ ?side1 ?side2 A17.out).mono ?_); (case side1 => repeat (first | (with_reducible first | exact HI228.out | apply IsS41.alloc | apply IsS41.drewN | apply IsS41.drew | apply IsS41.set_1 | apply IsS41.set_2) | exact HI228.out)); (case side2 => repeat (first | (with_reducible first | exact HB.out | apply below_alloc | apply pw_below_drewN | apply below_drew1 | refine below_set ?_ (IsS41.ge HI228.out)) | exact HB.out)); rintro e w21 ⟨rfl, hi, hb, hk⟩; refine ⟨_, rfl, ?_⟩; have n0_ := Aside0.mk (hb); have n1_ := Aside0.mk (hi); clear HB; clear HI228; have HB := n0_; have HI228 := n1_; clear n0_ n1_; (try clear hb); (try clear hb2); (try clear hk); (try clear hi)))
 go_ret2
 exact ⟨by first | rfl | (simp [errW_none, errW_some] <;> rfl) | (simp [*, errW_none, errW_some] <;> rfl), by repeat (first | (with_reducible first | exact HB.out | apply below_alloc | apply pw_below_drewN | apply below_drew1 | refine below_set ?_ (IsS41.ge HI228.out)) | exact HB.out)⟩

/-! ### spec_DrawCountOfDigits: function 15 -/
def spec_DrawCountOfDigits.f (l0 : List Int) : Option (Int × Int) := (spec_DrawLeastOfDigits.f l0).bind fun bt250 => (some (bt250.1, bt250.2))
set_option maxHeartbeats 8000000 in
set_option maxRecDepth 100000 in
theorem spec_DrawCountOfDigits.calls (A0 : Option Addr) (c0 : Nat) (l0 : List Int) (r1 : Int) (r2 : Int) (w : World) (hr0 : Kd.C (Kd.int .u8) w A0 l0.length l0) (hc0 : l0.length ≤ c0) (h : spec_DrawCountOfDigits.f l0 = some (r1, r2)) :
 Calls Tryz.prog 15 #[.slice A0 l0.length c0] w fun e w' => e = .returned (.tuple #[.int .i64 r1, .int .i64 r2]) ∧ Below w.heap.size w w' := by
 have HR0 := Aside0.mk hr0
 have HC0 := Aside0.mk hc0
 clear hr0 hc0
 have HB := Aside0.mk (Below.refl w.heap.size w)
 have H : ((spec_DrawLeastOfDigits.f l0).bind fun bt250 => (some (bt250.1, bt250.2))) = some (r1, r2) := h
 clear h
 replace H := Option.bind_eq_some_iff.mp H
 obtain ⟨⟨t250, t251⟩, A20, H⟩ := H
 dsimp only at H
 have A2 := Aside0.mk A20
 clear A20
 simp only [Option.some.injEq, Prod.mk.injEq] at H
 obtain ⟨rfl, rfl⟩ := H
 go_enter Tryz.func15, Tryz.ntmps15
 go_wp2_with (first | ((with_reducible refine gate_callee (f := 69) rfl ?_); refine goesL_ (some 5) rfl rfl Tryz.func69 (by kernel_rfl) rfl #[.slice A0 l0.length c0] rfl z4_0_ ?_; (with_reducible refine (spec_DrawLeastOfDigits.calls _ _ l0 t250 t251 _ ?side1 ?side2 A2.out).mono ?_); (case side1 => repeat (first | exact HR0.out | (with_reducible refine Kd.C_alloc ?_ _) | (with_reducible refine Kd.C_drewN ?_ _) | (with_reducible refine Kd.C_drew ?_))); (case side2 => exact HC0.out); rintro e w3 ⟨rfl, hb⟩; refine ⟨_, rfl, ?_⟩; have n0_ := Aside0.mk (below_step z4_1_ hb); clear HB; have HB := n0_; clear n0_; (try clear hb); (try clear hb2); (try clear hk); (try clear hi)))
 go_ret2
 exact ⟨by first | rfl | (simp [errW_none, errW_some] <;> rfl) | (simp [*, errW_none, errW_some] <;> rfl), by repeat (first | (with_reducible first | exact HB.out | apply below_alloc | apply pw_below_drewN | apply below_drew1) | exact HB.out)⟩

/-! ### impl_numberOf: function 88 -/
def impl_numberOf.l0 : Nat → ByteArray → Int → Int → Int → Option (Int)
 | 0, _, _, _, _ => none
 | k + 1, x0, x3, x6, x7 => if x7 < x6 then (if 0 ≤ x7 then (if x7 < (x0.size : Int) then (impl_numberOf.l0 k x0 (wrap64 ((wrap64 (10 * x3)) + (((bt x0 x7) - 48) % 256))) x6 (wrap64 (x7 + 1))) else (none)) else (none)) else (some x3)
def impl_numberOf.f (k : Nat) (a0 : ByteArray) : Option (Int) := impl_numberOf.l0 k a0 0 (a0.size : Int) 0
theorem impl_numberOf.mono_l : ∀ k, (∀ y0 y1 y2 y3, LeO (impl_numberOf.l0 k y0 y1 y2 y3) (impl_numberOf.l0 (k + 1) y0 y1 y2 y3))
 | 0 => fun _ _ _ _ r h => by simp [impl_numberOf.l0] at h
 | k + 1 => by
  have ih0 := impl_numberOf.mono_l k
  intro y0 y1 y2 y3
  unfold impl_numberOf.l0
  repeat' first
  | (with_reducible exact ih0 _ _ _ _)
  | (with_reducible exact LeO.refl _)
  | (with_reducible exact LeO.none _)
  | (with_reducible refine LeO.ite ?_ ?_)
  | (with_reducible refine LeO.bind ?_ (fun _ => ?_))
  | exact ih0 _ _ _ _
  | exact LeO.none _
  | refine LeO.ite ?_ ?_
  | refine LeO.bind ?_ (fun _ => ?_)
theorem impl_numberOf.mono : ∀ a0 k, LeO (impl_numberOf.f k a0) (impl_numberOf.f (k + 1) a0) := by
 intro a0 k
 have ih0 := impl_numberOf.mono_l k
 unfold impl_numberOf.f
 repeat' first
  | (with_reducible exact ih0 _ _ _ _)
  | (with_reducible exact LeO.refl _)
  | (with_reducible exact LeO.none _)
  | (with_reducible refine LeO.ite ?_ ?_)
  | (with_reducible refine LeO.bind ?_ (fun _ => ?_))
  | exact ih0 _ _ _ _
  | exact LeO.none _
  | refine LeO.ite ?_ ?_
  | refine LeO.bind ?_ (fun _ => ?_)
set_option maxHeartbeats 8000000 in
set_option maxRecDepth 100000 in
theorem impl_numberOf.calls (k : Nat) (a0 : ByteArray) (r : Int) (w : World) (h : impl_numberOf.f k a0 = some r) :
 Calls Tryz.prog 88 #[.string a0] w fun e w' => e = .returned (.int .i64 r) ∧ Drawn0 w w' := by
 have H : (impl_numberOf.l0 k a0 0 (a0.size : Int) 0) = some r := h
 clear h
 have H' := Aside0.mk H
 clear H
 go_enter Tryz.func88, Tryz.ntmps88
 go_wp2
 go_loopg [3, 7] k (fun kq v3 v7 w' => ∃ (x3_1 : Int) (x7_1 : Int), v3 = .int .i64 x3_1 ∧ v7 = .int .i64 x7_1 ∧ Aside0 (impl_numberOf.l0 kq a0 x3_1 (a0.size : Int) x7_1 = some r) ∧ Aside0 (kq ≤ k) ∧ Drawn0 w w')
 case atStart => exact ⟨(0), (0), z4_2_, z4_2_, H', ⟨Nat.le_refl _⟩, by repeat (first | exact Drawn0.refl _ | apply Drawn0.step)⟩
 case round =>
  clear H'
  obtain ⟨x3_1, x7_1, rfl, rfl, HA, HK1, ⟨m1, rfl⟩⟩ := hrel
  cases gk with
  | zero => exact absurd HA.out (by simp [impl_numberOf.l0])
  | succ k1 =>
   have H := HA.out
   clear HA
   simp only [impl_numberOf.l0] at H
   by_cases c2 : x7_1 < (a0.size : Int)
   · rw [if_pos c2] at H
     have c2b0 : decide (x7_1 < (a0.size : Int)) = true := decide_eq_true c2
     clear c2
     by_cases c3 : 0 ≤ x7_1
     rotate_left
     · exact none_ (if_neg c3) H
     rw [if_pos c3] at H
     have c3b0 : decide (0 ≤ x7_1) = true := decide_eq_true c3
     clear c3
     by_cases c4 : x7_1 < (a0.size : Int)
     rotate_left
     · exact none_ (if_neg c4) H
     rw [if_pos c4] at H
     have c4b0 : decide (x7_1 < (a0.size : Int)) = true := decide_eq_true c4
     clear c4
     have H' := Aside0.mk H
     clear H
     have p5 : 0 ≤ (x7_1 : Int) := of_decide_eq_true z4_5_
     have q5 : x7_1 < (a0.size : Int) := of_decide_eq_true z4_5_
     have hx5 := bt_at a0 x7_1
     replace p5 := eq_true p5
     replace q5 := eq_true q5
     go_wp2
     go_roundg k1
     case measure => have := HK1.out; omega
     case rel => exact ⟨(wrap64 ((wrap64 (10 * x3_1)) + (((bt a0 x7_1) - 48) % 256))), (wrap64 (x7_1 + 1)), z4_2_, z4_2_, H', ⟨by have := HK1.out; omega⟩, by repeat (first | exact Drawn0.refl _ | apply Drawn0.step)⟩
   rw [if_neg c2] at H
   have c2b0 : decide (x7_1 < (a0.size : Int)) = false := decide_eq_false c2
   clear c2
   obtain rfl := Option.some.inj H
   go_wp2
   go_ret
   exact ⟨by first | rfl | (simp; done) | (simp [*]; done), by repeat (first | exact Drawn0.refl _ | apply Drawn0.step)⟩

/-! ### impl_turned: function 111 -/
def impl_turned.f (a0 : ByteArray) : Option (ByteArray) := if a0.size ≤ 1048576 then some (strOfNums (bytesOf a0).reverse) else none
set_option maxHeartbeats 8000000 in
set_option maxRecDepth 100000 in
open Bytes in
theorem impl_turned.calls (a0 : ByteArray) (r : ByteArray) (w : World) (h : impl_turned.f a0 = some r) :
 Calls Tryz.prog 111 #[.string a0] w fun e w' => e = .returned (.string r) ∧ Below w.heap.size w w' := by
 unfold impl_turned.f at h
 by_cases hz : a0.size ≤ 1048576
 rotate_left
 · exact none_ (if_neg hz) h
 rw [if_pos hz] at h
 have h := Option.some.inj h
 have hbl : (bytesOf a0).length = a0.size := (bytes_reads w 5 a0 (by omega)).1
 have HZ := Aside0.mk hz
 have HBL := Aside0.mk hbl
 have HR := Aside0.mk h
 have hcv := Lib.run_convert_string_bytes (P := Tryz.prog) w 9 22 5 a0 (u := .string) Tryz.underlying9 Tryz.underlying22 Tryz.underlying5
 have hgr := grown_le w a0.size 5 (by omega)
 have hm := MR_conv w 5 a0 (by omega) w.heap.size (Nat.le_refl _) hgr.2 hgr.1
 have HBV := Aside0.mk (bytes_below (Below.refl w.heap.size w) (Nat.le_refl _) 5 a0)
 generalize Lib.bytesWorld w 5 a0 = w7 at hm HBV hcv
 generalize grownCap w a0.size 0 5 = cap at hm hcv
 have HM := Aside0.mk hm
 clear hm hgr h hz hbl
 go_enter Tryz.func111, Tryz.ntmps111
 go_wp2_with (first | (go_at_call 95; (with_reducible refine (RevB.Reverse_MR HBV.out HM.out (by have := HBL.out; have := HZ.out; omega)).mono ?_); rintro e w9 ⟨rfl, ho, hb⟩; clear HM HBV hcv; have HBV := Aside0.mk hb; have hC := (MR_reads' ho).2.2; rw [List.length_reverse, HBL.out] at hC; have hcv := Kd.C_string (P := Tryz.prog) (src := 22) (dst := 9) (e := 5) (c := cap) Tryz.underlying22 Tryz.underlying5 Tryz.underlying9 hC; clear ho hb hC))
 go_ret
 exact ⟨by first | rfl | (rw [HR.out]; rfl), by repeat (first | exact HBV.out | apply pw_below_drewN | apply below_drew1)⟩

/-! ### impl_leastText: function 112 -/
def impl_leastText.l0 : Nat → Int → List Int → Int → Option (ByteArray)
 | 0, _, _, _ => none
 | k + 1, x1, x5, x6 => if x6 ≥ 0 then (if 0 ≤ x6 then (if x6 < (x5.length : Int) then (impl_leastText.l0 k (wrap64 (x1 - (mn x1 9))) (x5.set (x6 : Int).toNat ((wrap64 (48 + (mn x1 9))) % 256)) (wrap64 (x6 - 1))) else (none)) else (none)) else (some (strOfNums x5))
def impl_leastText.f (k : Nat) (a0 : Int) (a1 : Int) : Option (ByteArray) := if 0 ≤ a0 then (if (a0 : Int).toNat ≤ 281474976710656 then (impl_leastText.l0 k a1 (List.replicate (a0 : Int).toNat 0) (wrap64 (a0 - 1))) else (none)) else (none)
theorem impl_leastText.mono_l : ∀ k, (∀ y0 y1 y2, LeO (impl_leastText.l0 k y0 y1 y2) (impl_leastText.l0 (k + 1) y0 y1 y2))
 | 0 => fun _ _ _ r h => by simp [impl_leastText.l0] at h
 | k + 1 => by
  have ih0 := impl_leastText.mono_l k
  intro y0 y1 y2
  unfold impl_leastText.l0
  repeat' first
  | (with_reducible exact ih0 _ _ _)
  | (with_reducible exact LeO.refl _)
  | (with_reducible exact LeO.none _)
  | (with_reducible refine LeO.ite ?_ ?_)
  | (with_reducible refine LeO.bind ?_ (fun _ => ?_))
  | exact ih0 _ _ _
  | exact LeO.none _
  | refine LeO.ite ?_ ?_
  | refine LeO.bind ?_ (fun _ => ?_)
theorem impl_leastText.mono : ∀ a0 a1 k, LeO (impl_leastText.f k a0 a1) (impl_leastText.f (k + 1) a0 a1) := by
 intro a0 a1 k
 have ih0 := impl_leastText.mono_l k
 unfold impl_leastText.f
 repeat' first
  | (with_reducible exact ih0 _ _ _)
  | (with_reducible exact LeO.refl _)
  | (with_reducible exact LeO.none _)
  | (with_reducible refine LeO.ite ?_ ?_)
  | (with_reducible refine LeO.bind ?_ (fun _ => ?_))
  | exact ih0 _ _ _
  | exact LeO.none _
  | refine LeO.ite ?_ ?_
  | refine LeO.bind ?_ (fun _ => ?_)
set_option maxHeartbeats 8000000 in
set_option maxRecDepth 100000 in
theorem impl_leastText.calls (k : Nat) (a0 : Int) (a1 : Int) (r : ByteArray) (w : World) (h : impl_leastText.f k a0 a1 = some r) :
 Calls Tryz.prog 112 #[.int .i64 a0, .int .i64 a1] w fun e w' => e = .returned (.string r) ∧ Below w.heap.size w w' := by
 have HB := Aside0.mk (Below.refl w.heap.size w)
 have H : (if 0 ≤ a0 then (if (a0 : Int).toNat ≤ 281474976710656 then (impl_leastText.l0 k a1 (List.replicate (a0 : Int).toNat 0) (wrap64 (a0 - 1))) else (none)) else (none)) = some r := h
 clear h
 by_cases c3 : 0 ≤ a0
 rotate_left
 · exact none_ (if_neg c3) H
 rw [if_pos c3] at H
 have c3b0 := eq_true c3
 have c3b1 : decide (0 ≤ a0) = true := decide_eq_true c3
 clear c3
 by_cases c4 : (a0 : Int).toNat ≤ 281474976710656
 rotate_left
 · exact none_ (if_neg c4) H
 rw [if_pos c4] at H
 have c4b0 := eq_true c4
 have c4b1 : decide ((a0 : Int).toNat ≤ 281474976710656) = true := decide_eq_true c4
 clear c4
 obtain ⟨y252, hy252⟩ : ∃ y_ : List Int, y_ = (List.replicate (a0 : Int).toNat 0) := ⟨_, rfl⟩
 replace H : (impl_leastText.l0 k a1 y252 (wrap64 (a0 - 1))) = some r := by first | (rw [hy252]; with_reducible exact H) | (have H2_ := (Option.bind_some _ _).symm.trans H; rw [hy252]; with_reducible exact H2_) | (have H2_ := (Option.bind_some _ _).symm.trans H; with_reducible exact H2_) | with_reducible exact H | (rw [hy252]; exact H) | exact H
 have Ny252 := Aside0.mk hy252
 clear hy252
 have H' := Aside0.mk H
 clear H
 go_enter Tryz.func112, Tryz.ntmps112
 go_wp2_with (first | ((with_reducible refine gate_dst (N := 9) rfl ?_); refine Kd.R_make (Kd.int .u8) _ 5 rfl (N := 9) rfl 22 _ _ rfl a0 rfl rfl Tryz.underlying22 (.int .u8 0) 1 info5 rfl (by decide) (by omega) 0 (ok := fun _ => True) (okp := fun _ => True) rfl (fun _ hk => hk) trivial (of_decide_eq_true z4_5_) (Nat.le_trans (Nat.mul_le_mul_right _ (of_decide_eq_true z4_5_ : a0.toNat ≤ 281474976710656)) (by omega)) (Below.refl _ _) (Nat.le_refl _) ?_; intro v253 w5 ho6 hb hg_ hnew_; clear hg_ hnew_; (first | rw [← Ny252.out] at ho6 | (simp only [Int.reduceToNat] at ho6; rw [← Ny252.out] at ho6)); have n0_ := Aside0.mk (Kd.R_lower ho6 (below_size z4_1_)); have n1_ := Aside0.mk (below_step z4_1_ hb); clear HB; have HO254 := n0_; have HB := n1_; clear n0_ n1_; clear hb ho6))
 go_loopg [1, 6] k (fun kq v1 v6 w' => ∃ (x1_1 : Int) (x5_1 : List Int) (x6_1 : Int), v1 = .int .i64 x1_1 ∧ v6 = .int .i64 x6_1 ∧ Aside0 (impl_leastText.l0 kq x1_1 x5_1 x6_1 = some r) ∧ Aside0 (kq ≤ k) ∧ Aside0 (Kd.R (Kd.int .u8) 5 w' w.heap.size (fun _ => True) v253 x5_1) ∧ Aside0 (Below w.heap.size w w'))
 case atStart => exact ⟨(a1), (y252), (wrap64 (a0 - 1)), z4_2_, z4_2_, H', ⟨Nat.le_refl _⟩, ⟨by (with_reducible repeat (first | apply Kd.R_alloc | apply Kd.R_drewN | apply Kd.R_drew)); exact HO254.out⟩, ⟨by repeat (first | (with_reducible first | exact HB.out | apply below_alloc | apply pw_below_drewN | apply below_drew1) | exact HB.out)⟩⟩
 case round =>
  clear H'
  (try clear c1);(try clear p2);(try clear c3);(try clear c3b0);(try clear c3b1);(try clear c4);(try clear c4b0);(try clear c4b1);(try clear p6)
  obtain ⟨x1_1, x5_1, x6_1, rfl, rfl, HA, HK1, HO_5, HB⟩ := hrel
  cases gk with
  | zero => exact absurd HA.out (by simp [impl_leastText.l0])
  | succ k1 =>
   have H := HA.out
   clear HA
   simp only [impl_leastText.l0] at H
   by_cases c7 : x6_1 ≥ 0
   · rw [if_pos c7] at H
     have c7b0 : decide (0 ≤ x6_1) = true := decide_eq_true c7
     clear c7
     obtain ⟨ji8, hji8⟩ : ∃ j_ : Int, (mn x1_1 9) = j_ := ⟨_, rfl⟩
     replace H : (if 0 ≤ x6_1 then (if x6_1 < (x5_1.length : Int) then (impl_leastText.l0 k1 (wrap64 (x1_1 - (ji8))) (x5_1.set (x6_1 : Int).toNat ((wrap64 (48 + (ji8))) % 256)) (wrap64 (x6_1 - 1))) else (none)) else (none)) = some r := by first | (rw [hji8] at H; exact H) | (simp only [hji8] at H ⊢; exact H)
     have hji8_ : (if 9 < x1_1 then 9 else x1_1) = ji8 := hji8
     by_cases c9 : 0 ≤ x6_1
     rotate_left
     · exact none_ (if_neg c9) H
     rw [if_pos c9] at H
     have c9b0 : decide (0 ≤ x6_1) = true := decide_eq_true c9
     clear c9
     by_cases c10 : x6_1 < (x5_1.length : Int)
     rotate_left
     · exact none_ (if_neg c10) H
     rw [if_pos c10] at H
     have c10b0 : decide (x6_1 < (x5_1.length : Int)) = true := decide_eq_true c10
     clear c10
     obtain ⟨y255, hy255⟩ : ∃ y_ : List Int, y_ = (x5_1.set (x6_1 : Int).toNat ((wrap64 (48 + (ji8))) % 256)) := ⟨_, rfl⟩
     replace H : (impl_leastText.l0 k1 (wrap64 (x1_1 - (ji8))) y255 (wrap64 (x6_1 - 1))) = some r := by first | (rw [hy255]; with_reducible exact H) | (have H2_ := (Option.bind_some _ _).symm.trans H; rw [hy255]; with_reducible exact H2_) | (have H2_ := (Option.bind_some _ _).symm.trans H; with_reducible exact H2_) | with_reducible exact H | (rw [hy255]; exact H) | exact H
     have Ny255 := Aside0.mk hy255
     clear hy255
     have H' := Aside0.mk H
     clear H
     have p11 : 0 ≤ (x6_1 : Int) := of_decide_eq_true z4_5_
     have q11 : (x6_1 : Int) < ((x5_1.length : Int) : Int) := of_decide_eq_true z4_5_
     obtain ⟨go11, co11, eo11, gb11, gl11, cl11, HG11⟩ := Kd.R_form HO_5.out (by omega)
     (first | cases eo11 | (injection eo11 with ea_ en_ ec_; (first | subst ea_ | (injection ea_ with ea_; subst ea_)); subst ec_; clear en_))
     have GB11 := Aside0.mk gb11
     have GG11 := Aside0.mk HG11
     clear gb11 gl11 HG11
     obtain ⟨hx11_0, hf11_0⟩ := Kd.R_celln 0 HO_5.out (x6_1 : Int) p11 q11
     replace p11 := eq_true p11
     replace q11 := eq_true q11
     have HP12 := Kd.R_putg HO_5.out (x6_1 : Int) ((wrap64 (48 + (ji8))) % 256)
     go_wp2_with (first | ((with_reducible refine gate_store (t := 5) (p := 23) rfl ?_); refine store_event (t := 5) (p := 23) (v := ?vo_w13) (w1 := (wr.setCell ⟨go11, (x6_1 : Int).toNat, none⟩ (.int .u8 ((wrap64 (48 + (ji8))) % 256)))) ?hg ?ho ?hn ?hr ?_; (case ho => rfl); (case hg => rfl); (case hn => rfl); (case hr => first | (go_simp; done) | (go_simp; rfl)); intro w13 hw; have hg : wr.grownBy w13 (some go11) := (by rw [hw]; exact HP12.2); have hp_ : Kd.R (Kd.int .u8) 5 w13 w.heap.size (fun _ => True) (.slice (some ⟨go11, 0, none⟩) x5_1.length co11) y255 := (by rw [hw, Ny255.out]; exact HP12.1); clear HP12; have n0_ := Aside0.mk (hp_); have n1_ := Aside0.mk ((by rw [hw]; exact below_set (HB.out) GB11.out : Below w.heap.size w w13)); clear HO_5; clear HB; have HO_5 := n0_; have HB := n1_; clear n0_ n1_; clear hg hw hp_))
     go_roundg k1
     case measure => have := HK1.out; omega
     case rel => exact ⟨(wrap64 (x1_1 - (ji8))), (y255), (wrap64 (x6_1 - 1)), (by first | rfl | (simp; done) | (simp only [← hji8] <;> (first | rfl | simp)) | (simp [*]; done)), z4_2_, H', ⟨by have := HK1.out; omega⟩, ⟨by (with_reducible repeat (first | apply Kd.R_alloc | apply Kd.R_drewN | apply Kd.R_drew)); exact HO_5.out⟩, ⟨by repeat (first | (with_reducible first | exact HB.out | apply below_alloc | apply pw_below_drewN | apply below_drew1) | exact HB.out)⟩⟩
   rw [if_neg c7] at H
   have c7b0 : decide (0 ≤ x6_1) = false := decide_eq_false c7
   clear c7
   obtain rfl := Option.some.inj H
   have hcv14 := own_string (P := Tryz.prog) Tryz.underlying22 Tryz.underlying5 Tryz.underlying9 (Kd.own_of_R HO_5.out)
   go_wp2
   go_ret
   exact ⟨by first | rfl | (simp [errW_none, errW_some] <;> rfl) | (simp [*, errW_none, errW_some] <;> rfl), by repeat (first | (with_reducible first | exact HB.out | apply below_alloc | apply pw_below_drewN | apply below_drew1) | exact HB.out)⟩

/-! ### impl_ofDigits: function 70 -/
def impl_ofDigits.j0 : Nat → Int → Int → Bool → Bool → Option (Int × Bool)
 | 0, _, _, _, _ => none
 | k + 1, x0, x1, x2, x30 => if x30 = true then (some (0, false)) else (if x2 = true then ((impl_leastText.f k x0 x1).bind fun t258 => ((impl_turned.f t258).bind fun t259 => ((impl_numberOf.f k t259).bind fun t260 => (some (t260, true))))) else (if x0 = 1 then (some (x1, true)) else ((strconv_Itoa.f (mx 1 (wrap64 (x1 - (wrap64 (9 * (wrap64 (x0 - 1)))))))).bind fun t261 => ((impl_leastText.f k (wrap64 (x0 - 1)) (wrap64 (x1 - (mx 1 (wrap64 (x1 - (wrap64 (9 * (wrap64 (x0 - 1)))))))))).bind fun t262 => (if t261.size + t262.size ≤ 9223372036854775807 then ((impl_numberOf.f k (t261 ++ t262)).bind fun t263 => (some (t263, true))) else (none))))))
def impl_ofDigits.f (k : Nat) (a0 : Int) (a1 : Int) (a2 : Bool) : Option (Int × Bool) := (impl_within.f a0 1 12).bind fun t256 => (if t256 = true then ((impl_isSum.f a1).bind fun t257 => (if t257 = true then (if a1 > (wrap64 (9 * a0)) then (impl_ofDigits.j0 k a0 a1 a2 true) else (if a1 = 0 then (impl_ofDigits.j0 k a0 a1 a2 (decide (a0 > 1))) else (impl_ofDigits.j0 k a0 a1 a2 false))) else (impl_ofDigits.j0 k a0 a1 a2 true))) else (impl_ofDigits.j0 k a0 a1 a2 true))
theorem impl_ofDigits.mono_l : ∀ k, (∀ y0 y1 y2 y3, LeO (impl_ofDigits.j0 k y0 y1 y2 y3) (impl_ofDigits.j0 (k + 1) y0 y1 y2 y3))
 | 0 => fun _ _ _ _ r h => by simp [impl_ofDigits.j0] at h
 | k + 1 => by
  have ih0 := impl_ofDigits.mono_l k
  intro y0 y1 y2 y3
  unfold impl_ofDigits.j0
  repeat' first
  | (with_reducible exact ih0 _ _ _ _)
  | (with_reducible exact impl_leastText.mono _ _ _)
  | (with_reducible exact impl_numberOf.mono _ _)
  | (with_reducible exact LeO.refl _)
  | (with_reducible exact LeO.none _)
  | (with_reducible refine LeO.ite ?_ ?_)
  | (with_reducible refine LeO.bind ?_ (fun _ => ?_))
  | exact ih0 _ _ _ _
  | exact impl_leastText.mono _ _ _
  | exact impl_numberOf.mono _ _
  | exact LeO.none _
  | refine LeO.ite ?_ ?_
  | refine LeO.bind ?_ (fun _ => ?_)
theorem impl_ofDigits.mono : ∀ a0 a1 a2 k, LeO (impl_ofDigits.f k a0 a1 a2) (impl_ofDigits.f (k + 1) a0 a1 a2) := by
 intro a0 a1 a2 k
 have ih0 := impl_ofDigits.mono_l k
 unfold impl_ofDigits.f
 repeat' first
  | (with_reducible exact ih0 _ _ _ _)
  | (with_reducible exact impl_leastText.mono _ _ _)
  | (with_reducible exact impl_numberOf.mono _ _)
  | (with_reducible exact LeO.refl _)
  | (with_reducible exact LeO.none _)
  | (with_reducible refine LeO.ite ?_ ?_)
  | (with_reducible refine LeO.bind ?_ (fun _ => ?_))
  | exact ih0 _ _ _ _
  | exact impl_leastText.mono _ _ _
  | exact impl_numberOf.mono _ _
  | exact LeO.none _
  | refine LeO.ite ?_ ?_
  | refine LeO.bind ?_ (fun _ => ?_)
set_option maxHeartbeats 8000000 in
set_option maxRecDepth 100000 in
theorem impl_ofDigits.calls (k : Nat) (a0 : Int) (a1 : Int) (a2 : Bool) (r1 : Int) (r2 : Bool) (w : World) (hT : Shelf.TabOk w) (h : impl_ofDigits.f k a0 a1 a2 = some (r1, r2)) :
 Calls Tryz.prog 70 #[.int .i64 a0, .int .i64 a1, .bool a2] w fun e w' => e = .returned (.tuple #[.int .i64 r1, .bool r2]) ∧ Below w.heap.size w w' := by
 have HT := Aside0.mk hT
 clear hT
 have HB := Aside0.mk (Below.refl w.heap.size w)
 have H : ((impl_within.f a0 1 12).bind fun t256 => (if t256 = true then ((impl_isSum.f a1).bind fun t257 => (if t257 = true then (if a1 > (wrap64 (9 * a0)) then (impl_ofDigits.j0 k a0 a1 a2 true) else (if a1 = 0 then (impl_ofDigits.j0 k a0 a1 a2 (decide (a0 > 1))) else (impl_ofDigits.j0 k a0 a1 a2 false))) else (impl_ofDigits.j0 k a0 a1 a2 true))) else (impl_ofDigits.j0 k a0 a1 a2 true))) = some (r1, r2) := h
 clear h
 have HC4 := Aside0.mk H
 clear H
 go_enter Tryz.func70, Tryz.ntmps70
 go_upto_region 1 with (fail)
 go_cut [30] (fun v30 wc => ∃ (kq : Nat) (x30_3 : Bool), v30 = .bool x30_3 ∧ Aside0 (impl_ofDigits.j0 kq a0 a1 a2 x30_3 = some (r1, r2)) ∧ Aside0 (kq ≤ k) ∧ Aside0 (Below w.heap.size w wc))
 case first =>
  have H := HC4.out
  clear HC4
  replace H := Option.bind_eq_some_iff.mp H
  obtain ⟨t256, A50, H⟩ := H
  have A5 := Aside0.mk A50
  clear A50
  by_cases c6 : t256 = true
  · subst c6
    have H1 : ((impl_isSum.f a1).bind fun t257 => (if t257 = true then (if a1 > (wrap64 (9 * a0)) then (impl_ofDigits.j0 k a0 a1 a2 true) else (if a1 = 0 then (impl_ofDigits.j0 k a0 a1 a2 (decide (a0 > 1))) else (impl_ofDigits.j0 k a0 a1 a2 false))) else (impl_ofDigits.j0 k a0 a1 a2 true))) = some (r1, r2) := by rw [if_pos rfl] at H; exact H
    clear H
    have H := H1
    clear H1
    replace H := Option.bind_eq_some_iff.mp H
    obtain ⟨t257, A70, H⟩ := H
    have A7 := Aside0.mk A70
    clear A70
    by_cases c8 : t257 = true
    · subst c8
      have H1 : (if a1 > (wrap64 (9 * a0)) then (impl_ofDigits.j0 k a0 a1 a2 true) else (if a1 = 0 then (impl_ofDigits.j0 k a0 a1 a2 (decide (a0 > 1))) else (impl_ofDigits.j0 k a0 a1 a2 false))) = some (r1, r2) := by rw [if_pos rfl] at H; exact H
      clear H
      have H := H1
      clear H1
      by_cases c9 : a1 > (wrap64 (9 * a0))
      · rw [if_pos c9] at H
        have c9b0 : decide ((wrap64 (9 * a0)) < a1) = true := decide_eq_true c9
        clear c9
        (first | rw [c9b0] | (simp only [i64_w, i32_w]; rw [c9b0]) | skip)
        have H' := Aside0.mk H
        clear H
        go_wp2_with (first | ((with_reducible refine gate_callee (f := 73) rfl ?_); refine goesL_ (some 10) rfl rfl Tryz.func73 (by kernel_rfl) rfl #[.int .i64 a0, .int .i64 1, .int .i64 12] rfl z4_0_ ?_; (with_reducible refine (impl_within.calls a0 1 12 true _ A5.out).mono ?_); rintro e w' ⟨rfl, ⟨nd, rfl⟩⟩; refine ⟨_, rfl, ?_⟩) | (go_at_call 66; (with_reducible refine (impl_isSum.calls a1 true _ A7.out).mono ?_); rintro e w' ⟨rfl, ⟨nd, rfl⟩⟩))
        go_meet
        case rel => exact ⟨_, (true), z4_2_, H', ⟨by first | omega | exact Nat.le_refl _⟩, ⟨by repeat (first | (with_reducible first | exact HB.out | apply below_alloc | apply pw_below_drewN | apply below_drew1) | exact HB.out)⟩⟩
      rw [if_neg c9] at H
      have c9b0 : decide ((wrap64 (9 * a0)) < a1) = false := decide_eq_false c9
      clear c9
      (first | rw [c9b0] | (simp only [i64_w, i32_w]; rw [c9b0]) | skip)
      by_cases c10 : a1 = 0
      · rw [if_pos c10] at H
        have c10b0 : (a1 == 0) = true := beq_iff_eq.mpr c10
        have c10b1 : (a1 != 0) = false := bne_eq_false_iff_eq.mpr c10
        clear c10
        have H' := Aside0.mk H
        clear H
        go_wp2_with (first | ((with_reducible refine gate_callee (f := 73) rfl ?_); refine goesL_ (some 10) rfl rfl Tryz.func73 (by kernel_rfl) rfl #[.int .i64 a0, .int .i64 1, .int .i64 12] rfl z4_0_ ?_; (with_reducible refine (impl_within.calls a0 1 12 true _ A5.out).mono ?_); rintro e w' ⟨rfl, ⟨nd, rfl⟩⟩; refine ⟨_, rfl, ?_⟩) | (go_at_call 66; (with_reducible refine (impl_isSum.calls a1 true _ A7.out).mono ?_); rintro e w' ⟨rfl, ⟨nd, rfl⟩⟩))
        go_meet
        case rel => exact ⟨_, (decide (a0 > 1)), z4_2_, H', ⟨by first | omega | exact Nat.le_refl _⟩, ⟨by repeat (first | (with_reducible first | exact HB.out | apply below_alloc | apply pw_below_drewN | apply below_drew1) | exact HB.out)⟩⟩
      rw [if_neg c10] at H
      have c10b0 : (a1 == 0) = false := beq_eq_false_iff_ne.mpr c10
      have c10b1 : (a1 != 0) = true := bne_iff_ne.mpr c10
      have H' := Aside0.mk H
      clear H
      go_wp2_with (first | ((with_reducible refine gate_callee (f := 73) rfl ?_); refine goesL_ (some 10) rfl rfl Tryz.func73 (by kernel_rfl) rfl #[.int .i64 a0, .int .i64 1, .int .i64 12] rfl z4_0_ ?_; (with_reducible refine (impl_within.calls a0 1 12 true _ A5.out).mono ?_); rintro e w' ⟨rfl, ⟨nd, rfl⟩⟩; refine ⟨_, rfl, ?_⟩) | (go_at_call 66; (with_reducible refine (impl_isSum.calls a1 true _ A7.out).mono ?_); rintro e w' ⟨rfl, ⟨nd, rfl⟩⟩))
      go_meet
      case rel => exact ⟨_, (false), z4_2_, H', ⟨by first | omega | exact Nat.le_refl _⟩, ⟨by repeat (first | (with_reducible first | exact HB.out | apply below_alloc | apply pw_below_drewN | apply below_drew1) | exact HB.out)⟩⟩
    replace c8 := Bool.eq_false_iff.mpr c8
    subst c8
    have H1 : (impl_ofDigits.j0 k a0 a1 a2 true) = some (r1, r2) := by rw [if_neg (show ¬ (false = true) by decide)] at H; exact H
    clear H
    have H := H1
    clear H1
    have H' := Aside0.mk H
    clear H
    go_wp2_with (first | ((with_reducible refine gate_callee (f := 73) rfl ?_); refine goesL_ (some 10) rfl rfl Tryz.func73 (by kernel_rfl) rfl #[.int .i64 a0, .int .i64 1, .int .i64 12] rfl z4_0_ ?_; (with_reducible refine (impl_within.calls a0 1 12 true _ A5.out).mono ?_); rintro e w' ⟨rfl, ⟨nd, rfl⟩⟩; refine ⟨_, rfl, ?_⟩) | (go_at_call 66; (with_reducible refine (impl_isSum.calls a1 false _ A7.out).mono ?_); rintro e w' ⟨rfl, ⟨nd, rfl⟩⟩))
    go_meet
    case rel => exact ⟨_, (true), z4_2_, H', ⟨by first | omega | exact Nat.le_refl _⟩, ⟨by repeat (first | (with_reducible first | exact HB.out | apply below_alloc | apply pw_below_drewN | apply below_drew1) | exact HB.out)⟩⟩
  replace c6 := Bool.eq_false_iff.mpr c6
  subst c6
  have H1 : (impl_ofDigits.j0 k a0 a1 a2 true) = some (r1, r2) := by rw [if_neg (show ¬ (false = true) by decide)] at H; exact H
  clear H
  have H := H1
  clear H1
  have H' := Aside0.mk H
  clear H
  go_wp2_with (first | ((with_reducible refine gate_callee (f := 73) rfl ?_); refine goesL_ (some 10) rfl rfl Tryz.func73 (by kernel_rfl) rfl #[.int .i64 a0, .int .i64 1, .int .i64 12] rfl z4_0_ ?_; (with_reducible refine (impl_within.calls a0 1 12 false _ A5.out).mono ?_); rintro e w' ⟨rfl, ⟨nd, rfl⟩⟩; refine ⟨_, rfl, ?_⟩))
  go_meet
  case rel => exact ⟨_, (true), z4_2_, H', ⟨by first | omega | exact Nat.le_refl _⟩, ⟨by repeat (first | (with_reducible first | exact HB.out | apply below_alloc | apply pw_below_drewN | apply below_drew1) | exact HB.out)⟩⟩
 case rest =>
  clear HC4
  (try clear c1);(try clear p2);(try clear c6);(try clear p6);(try clear c7);(try clear c8);(try clear c9);(try clear c9b0);(try clear c10);(try clear c10b0);(try clear c10b1)
  obtain ⟨kq, x30_3, rfl, HA, HJ3, HB⟩ := hcut
  cases kq with
  | zero => exact absurd HA.out (by simp [impl_ofDigits.j0])
  | succ kj3 =>
   have H := HA.out
   clear HA
   simp only [impl_ofDigits.j0] at H
   by_cases c11 : x30_3 = true
   · subst c11
     have H1 : (some (0, false)) = some (r1, r2) := by rw [if_pos rfl] at H; exact H
     clear H
     have H := H1
     clear H1
     simp only [Option.some.injEq, Prod.mk.injEq] at H
     obtain ⟨rfl, rfl⟩ := H
     go_wp2
     go_ret2
     exact ⟨by first | rfl | (simp [errW_none, errW_some] <;> rfl) | (simp [*, errW_none, errW_some] <;> rfl), by repeat (first | (with_reducible first | exact HB.out | apply below_alloc | apply pw_below_drewN | apply below_drew1) | exact HB.out)⟩
   replace c11 := Bool.eq_false_iff.mpr c11
   subst c11
   have H1 : (if a2 = true then ((impl_leastText.f kj3 a0 a1).bind fun t258 => ((impl_turned.f t258).bind fun t259 => ((impl_numberOf.f kj3 t259).bind fun t260 => (some (t260, true))))) else (if a0 = 1 then (some (a1, true)) else ((strconv_Itoa.f (mx 1 (wrap64 (a1 - (wrap64 (9 * (wrap64 (a0 - 1)))))))).bind fun t261 => ((impl_leastText.f kj3 (wrap64 (a0 - 1)) (wrap64 (a1 - (mx 1 (wrap64 (a1 - (wrap64 (9 * (wrap64 (a0 - 1)))))))))).bind fun t262 => (if t261.size + t262.size ≤ 9223372036854775807 then ((impl_numberOf.f kj3 (t261 ++ t262)).bind fun t263 => (some (t263, true))) else (none)))))) = some (r1, r2) := by rw [if_neg (show ¬ (false = true) by decide)] at H; exact H
   clear H
   have H := H1
   clear H1
   by_cases c12 : a2 = true
   · subst c12
     have H1 : ((impl_leastText.f kj3 a0 a1).bind fun t258 => ((impl_turned.f t258).bind fun t259 => ((impl_numberOf.f kj3 t259).bind fun t260 => (some (t260, true))))) = some (r1, r2) := by rw [if_pos rfl] at H; exact H
     clear H
     have H := H1
     clear H1
     replace H := Option.bind_eq_some_iff.mp H
     obtain ⟨t258, A130, H⟩ := H
     have A13 := Aside0.mk A130
     clear A130
     replace H := Option.bind_eq_some_iff.mp H
     obtain ⟨t259, A140, H⟩ := H
     have A14 := Aside0.mk A140
     clear A140
     replace H := Option.bind_eq_some_iff.mp H
     obtain ⟨t260, A150, H⟩ := H
     have A15 := Aside0.mk A150
     clear A150
     simp only [Option.some.injEq, Prod.mk.injEq] at H
     obtain ⟨rfl, rfl⟩ := H
     go_wp2_with (first | ((with_reducible refine gate_callee (f := 112) rfl ?_); refine goesL_ (some 34) rfl rfl Tryz.func112 (by kernel_rfl) rfl #[.int .i64 a0, .int .i64 a1] rfl z4_0_ ?_; (with_reducible refine (impl_leastText.calls kj3 a0 a1 t258 _ A13.out).mono ?_); rintro e w16 ⟨rfl, hb⟩; refine ⟨_, rfl, ?_⟩; have n0_ := Aside0.mk (below_step z4_1_ hb); clear HB; have HB := n0_; clear n0_; (try clear hb); (try clear hb2); (try clear hk); (try clear hi)) | ((with_reducible refine gate_callee (f := 111) rfl ?_); refine goesL_ (some 35) rfl rfl Tryz.func111 (by kernel_rfl) rfl #[.string t258] rfl z4_0_ ?_; (with_reducible refine (impl_turned.calls t258 t259 _ A14.out).mono ?_); rintro e w17 ⟨rfl, hb⟩; refine ⟨_, rfl, ?_⟩; have n0_ := Aside0.mk (below_step z4_1_ hb); clear HB; have HB := n0_; clear n0_; (try clear hb); (try clear hb2); (try clear hk); (try clear hi)) | ((with_reducible refine gate_callee (f := 88) rfl ?_); refine goesL_ (some 36) rfl rfl Tryz.func88 (by kernel_rfl) rfl #[.string t259] rfl z4_0_ ?_; (with_reducible refine (impl_numberOf.calls kj3 t259 t260 _ A15.out).mono ?_); rintro e w' ⟨rfl, ⟨nd, rfl⟩⟩; refine ⟨_, rfl, ?_⟩))
     go_ret2
     exact ⟨by first | rfl | (simp [errW_none, errW_some] <;> rfl) | (simp [*, errW_none, errW_some] <;> rfl), by repeat (first | (with_reducible first | exact HB.out | apply below_alloc | apply pw_below_drewN | apply below_drew1) | exact HB.out)⟩
   replace c12 := Bool.eq_false_iff.mpr c12
   subst c12
   have H1 : (if a0 = 1 then (some (a1, true)) else ((strconv_Itoa.f (mx 1 (wrap64 (a1 - (wrap64 (9 * (wrap64 (a0 - 1)))))))).bind fun t261 => ((impl_leastText.f kj3 (wrap64 (a0 - 1)) (wrap64 (a1 - (mx 1 (wrap64 (a1 - (wrap64 (9 * (wrap64 (a0 - 1)))))))))).bind fun t262 => (if t261.size + t262.size ≤ 9223372036854775807 then ((impl_numberOf.f kj3 (t261 ++ t262)).bind fun t263 => (some (t263, true))) else (none))))) = some (r1, r2) := by rw [if_neg (show ¬ (false = true) by decide)] at H; exact H
   clear H
   have H := H1
   clear H1
   by_cases c18 : a0 = 1
   · rw [if_pos c18] at H
     have c18b0 : (a0 == 1) = true := beq_iff_eq.mpr c18
     have c18b1 : (a0 != 1) = false := bne_eq_false_iff_eq.mpr c18
     clear c18
     simp only [Option.some.injEq, Prod.mk.injEq] at H
     obtain ⟨rfl, rfl⟩ := H
     go_wp2
     go_ret2
     exact ⟨by first | rfl | (simp [errW_none, errW_some] <;> rfl) | (simp [*, errW_none, errW_some] <;> rfl), by repeat (first | (with_reducible first | exact HB.out | apply below_alloc | apply pw_below_drewN | apply below_drew1) | exact HB.out)⟩
   rw [if_neg c18] at H
   have c18b0 : (a0 == 1) = false := beq_eq_false_iff_ne.mpr c18
   have c18b1 : (a0 != 1) = true := bne_iff_ne.mpr c18
   obtain ⟨ji19, hji19⟩ : ∃ j_ : Int, (mx 1 (wrap64 (a1 - (wrap64 (9 * (wrap64 (a0 - 1))))))) = j_ := ⟨_, rfl⟩
   replace H : ((strconv_Itoa.f (ji19)).bind fun t261 => ((impl_leastText.f kj3 (wrap64 (a0 - 1)) (wrap64 (a1 - (ji19)))).bind fun t262 => (if t261.size + t262.size ≤ 9223372036854775807 then ((impl_numberOf.f kj3 (t261 ++ t262)).bind fun t263 => (some (t263, true))) else (none)))) = some (r1, r2) := by first | (rw [hji19] at H; exact H) | (simp only [hji19] at H ⊢; exact H)
   have hji19_ : (if 1 < (wrap64 (a1 - (wrap64 (9 * (wrap64 (a0 - 1)))))) then (wrap64 (a1 - (wrap64 (9 * (wrap64 (a0 - 1)))))) else 1) = ji19 := hji19
   replace H := Option.bind_eq_some_iff.mp H
   obtain ⟨t261, A200, H⟩ := H
   have A20 := Aside0.mk A200
   clear A200
   replace H := Option.bind_eq_some_iff.mp H
   obtain ⟨t262, A210, H⟩ := H
   have A21 := Aside0.mk A210
   clear A210
   by_cases c22 : t261.size + t262.size ≤ 9223372036854775807
   rotate_left
   · exact none_ (if_neg c22) H
   rw [if_pos c22] at H
   have c22b0 := eq_true c22
   have c22b1 : decide (t261.size + t262.size ≤ 9223372036854775807) = true := decide_eq_true c22
   try have c22b2 : (9223372036854775807 < t261.size + t262.size) = False := eq_false (Nat.not_lt.2 c22)
   replace H := Option.bind_eq_some_iff.mp H
   obtain ⟨t263, A230, H⟩ := H
   have A23 := Aside0.mk A230
   clear A230
   simp only [Option.some.injEq, Prod.mk.injEq] at H
   obtain ⟨rfl, rfl⟩ := H
   go_wp2_with (first | ((with_reducible refine gate_callee (f := 87) rfl ?_); refine goesL_ (some 47) rfl rfl Tryz.func87 (by kernel_rfl) rfl #[.int .i64 ji19] rfl (by (try simp only [List.map_toArray, List.map_cons, List.map_nil]); first | done | (simp only [hji19]; rfl) | rfl | (simp only [List.length_drop, List.length_take]; rfl)) ?_; (with_reducible refine (strconv_Itoa.calls ji19 t261 _ ?side1 A20.out).mono ?_); (case side1 => exact Shelf.TabOk.below HT.out z4_1_); rintro e w24 ⟨rfl, hb⟩; refine ⟨_, rfl, ?_⟩; have n0_ := Aside0.mk (below_step z4_1_ hb); clear HB; have HB := n0_; clear n0_; (try clear hb); (try clear hb2); (try clear hk); (try clear hi)) | ((with_reducible refine gate_callee (f := 112) rfl ?_); refine goesL_ (some 53) rfl rfl Tryz.func112 (by kernel_rfl) rfl #[.int .i64 (wrap64 (a0 - 1)), .int .i64 (wrap64 (a1 - (ji19)))] rfl (by (try simp only [List.map_toArray, List.map_cons, List.map_nil]); first | done | (simp only [hji19]; rfl) | rfl | (simp only [List.length_drop, List.length_take]; rfl)) ?_; (with_reducible refine (impl_leastText.calls kj3 (wrap64 (a0 - 1)) (wrap64 (a1 - (ji19))) t262 _ A21.out).mono ?_); rintro e w25 ⟨rfl, hb⟩; refine ⟨_, rfl, ?_⟩; have n0_ := Aside0.mk (below_step z4_1_ hb); clear HB; have HB := n0_; clear n0_; (try clear hb); (try clear hb2); (try clear hk); (try clear hi)) | ((with_reducible refine gate_callee (f := 88) rfl ?_); refine goesL_ (some 55) rfl rfl Tryz.func88 (by kernel_rfl) rfl #[.string (t261 ++ t262)] rfl z4_0_ ?_; (with_reducible refine (impl_numberOf.calls kj3 (t261 ++ t262) t263 _ A23.out).mono ?_); rintro e w' ⟨rfl, ⟨nd, rfl⟩⟩; refine ⟨_, rfl, ?_⟩))
   go_ret2
   exact ⟨by first | rfl | (simp [errW_none, errW_some] <;> rfl) | (simp only [← hji19]; first | rfl | (simp [errW_none, errW_some] <;> rfl)) | (simp [*, errW_none, errW_some] <;> rfl), by repeat (first | (with_reducible first | exact HB.out | apply below_alloc | apply pw_below_drewN | apply below_drew1) | exact HB.out)⟩

/-! ### impl_LeastOfDigits: function 16 -/
def impl_LeastOfDigits.f (k : Nat) (a0 : Int) (a1 : Int) : Option (Int × Bool) := (impl_ofDigits.f k a0 a1 false).bind fun bt264 => (some (bt264.1, bt264.2))
theorem impl_LeastOfDigits.mono : ∀ a0 a1 k, LeO (impl_LeastOfDigits.f k a0 a1) (impl_LeastOfDigits.f (k + 1) a0 a1) := by
 intro a0 a1 k
 unfold impl_LeastOfDigits.f
 repeat' first
  | (with_reducible exact impl_ofDigits.mono _ _ _ _)
  | (with_reducible exact LeO.refl _)
  | (with_reducible exact LeO.none _)
  | (with_reducible refine LeO.ite ?_ ?_)
  | (with_reducible refine LeO.bind ?_ (fun _ => ?_))
  | exact impl_ofDigits.mono _ _ _ _
  | exact LeO.none _
  | refine LeO.ite ?_ ?_
  | refine LeO.bind ?_ (fun _ => ?_)
set_option maxHeartbeats 8000000 in
set_option maxRecDepth 100000 in
theorem impl_LeastOfDigits.calls (k : Nat) (a0 : Int) (a1 : Int) (r1 : Int) (r2 : Bool) (w : World) (hT : Shelf.TabOk w) (h : impl_LeastOfDigits.f k a0 a1 = some (r1, r2)) :
 Calls Tryz.prog 16 #[.int .i64 a0, .int .i64 a1] w fun e w' => e = .returned (.tuple #[.int .i64 r1, .bool r2]) ∧ Below w.heap.size w w' := by
 have HT := Aside0.mk hT
 clear hT
 have HB := Aside0.mk (Below.refl w.heap.size w)
 have H : ((impl_ofDigits.f k a0 a1 false).bind fun bt264 => (some (bt264.1, bt264.2))) = some (r1, r2) := h
 clear h
 replace H := Option.bind_eq_some_iff.mp H
 obtain ⟨⟨t264, t265⟩, A30, H⟩ := H
 dsimp only at H
 have A3 := Aside0.mk A30
 clear A30
 simp only [Option.some.injEq, Prod.mk.injEq] at H
 obtain ⟨rfl, rfl⟩ := H
 go_enter Tryz.func16, Tryz.ntmps16
 go_wp2_with (first | ((with_reducible refine gate_callee (f := 70) rfl ?_); refine goesL_ (some 8) rfl rfl Tryz.func70 (by kernel_rfl) rfl #[.int .i64 a0, .int .i64 a1, .bool false] rfl z4_0_ ?_; (with_reducible refine (impl_ofDigits.calls k a0 a1 false t264 t265 _ ?side1 A3.out).mono ?_); (case side1 => exact Shelf.TabOk.below HT.out z4_1_); rintro e w4 ⟨rfl, hb⟩; refine ⟨_, rfl, ?_⟩; have n0_ := Aside0.mk (below_step z4_1_ hb); clear HB; have HB := n0_; clear n0_; (try clear hb); (try clear hb2); (try clear hk); (try clear hi)))
 go_ret2
 exact ⟨by first | rfl | (simp [errW_none, errW_some] <;> rfl) | (simp [*, errW_none, errW_some] <;> rfl), by repeat (first | (with_reducible first | exact HB.out | apply below_alloc | apply pw_below_drewN | apply below_drew1) | exact HB.out)⟩

/-! ### spec_leDigits: function 71 -/
def spec_leDigits.f (a0 : Int) (a1 : Int) : Option (Bool) := (spec_l1In.f a0 1 12).bind fun t266 => (if t266 = true then ((spec_leSum.f a1).bind fun t267 => (if t267 = true then (if a1 ≤ (wrap64 (9 * a0)) then (if a1 > 0 then (some true) else (some (a0 == 1))) else (some false)) else (some false))) else (some false))
set_option maxHeartbeats 8000000 in
set_option maxRecDepth 100000 in
theorem spec_leDigits.calls (a0 : Int) (a1 : Int) (r : Bool) (w : World) (h : spec_leDigits.f a0 a1 = some r) :
 Calls Tryz.prog 71 #[.int .i64 a0, .int .i64 a1] w fun e w' => e = .returned (.bool r) ∧ Drawn0 w w' := by
 have H : ((spec_l1In.f a0 1 12).bind fun t266 => (if t266 = true then ((spec_leSum.f a1).bind fun t267 => (if t267 = true then (if a1 ≤ (wrap64 (9 * a0)) then (if a1 > 0 then (some true) else (some (a0 == 1))) else (some false)) else (some false))) else (some false))) = some r := h
 clear h
 replace H := Option.bind_eq_some_iff.mp H
 obtain ⟨t266, A30, H⟩ := H
 have A3 := Aside0.mk A30
 clear A30
 by_cases c4 : t266 = true
 · subst c4
   rw [if_pos rfl] at H
   replace H := Option.bind_eq_some_iff.mp H
   obtain ⟨t267, A50, H⟩ := H
   have A5 := Aside0.mk A50
   clear A50
   by_cases c6 : t267 = true
   · subst c6
     rw [if_pos rfl] at H
     by_cases c7 : a1 ≤ (wrap64 (9 * a0))
     · rw [if_pos c7] at H
       have c7b0 : decide (a1 ≤ (wrap64 (9 * a0))) = true := decide_eq_true c7
       clear c7
       by_cases c8 : a1 > 0
       · rw [if_pos c8] at H
         have c8b0 : decide (0 < a1) = true := decide_eq_true c8
         clear c8
         obtain rfl := Option.some.inj H
         go_enter Tryz.func71, Tryz.ntmps71
         go_wp2_with (first | ((with_reducible refine gate_callee (f := 77) rfl ?_); refine goesL_ (some 6) rfl rfl Tryz.func77 (by kernel_rfl) rfl #[.int .i64 a0, .int .i64 1, .int .i64 12] rfl z4_0_ ?_; (with_reducible refine (spec_l1In.calls a0 1 12 true _ A3.out).mono ?_); rintro e w' ⟨rfl, ⟨nd, rfl⟩⟩; refine ⟨_, rfl, ?_⟩) | (go_at_call 67; (with_reducible refine (spec_leSum.calls a1 true _ A5.out).mono ?_); rintro e w' ⟨rfl, ⟨nd, rfl⟩⟩))
         go_ret
         exact ⟨by first | rfl | (simp; done) | (simp [*]; done), by repeat (first | exact Drawn0.refl _ | apply Drawn0.step)⟩
       rw [if_neg c8] at H
       have c8b0 : decide (0 < a1) = false := decide_eq_false c8
       clear c8
       obtain rfl := Option.some.inj H
       go_enter Tryz.func71, Tryz.ntmps71
       go_wp2_with (first | ((with_reducible refine gate_callee (f := 77) rfl ?_); refine goesL_ (some 6) rfl rfl Tryz.func77 (by kernel_rfl) rfl #[.int .i64 a0, .int .i64 1, .int .i64 12] rfl z4_0_ ?_; (with_reducible refine (spec_l1In.calls a0 1 12 true _ A3.out).mono ?_); rintro e w' ⟨rfl, ⟨nd, rfl⟩⟩; refine ⟨_, rfl, ?_⟩) | (go_at_call 67; (with_reducible refine (spec_leSum.calls a1 true _ A5.out).mono ?_); rintro e w' ⟨rfl, ⟨nd, rfl⟩⟩))
       go_ret
       exact ⟨by first | rfl | (simp; done) | (simp [*]; done), by repeat (first | exact Drawn0.refl _ | apply Drawn0.step)⟩
     rw [if_neg c7] at H
     have c7b0 : decide (a1 ≤ (wrap64 (9 * a0))) = false := decide_eq_false c7
     clear c7
     obtain rfl := Option.some.inj H
     go_enter Tryz.func71, Tryz.ntmps71
     go_wp2_with (first | ((with_reducible refine gate_callee (f := 77) rfl ?_); refine goesL_ (some 6) rfl rfl Tryz.func77 (by kernel_rfl) rfl #[.int .i64 a0, .int .i64 1, .int .i64 12] rfl z4_0_ ?_; (with_reducible refine (spec_l1In.calls a0 1 12 true _ A3.out).mono ?_); rintro e w' ⟨rfl, ⟨nd, rfl⟩⟩; refine ⟨_, rfl, ?_⟩) | (go_at_call 67; (with_reducible refine (spec_leSum.calls a1 true _ A5.out).mono ?_); rintro e w' ⟨rfl, ⟨nd, rfl⟩⟩))
     go_ret
     exact ⟨by first | rfl | (simp; done) | (simp [*]; done), by repeat (first | exact Drawn0.refl _ | apply Drawn0.step)⟩
   replace c6 := Bool.eq_false_iff.mpr c6
   subst c6
   rw [if_neg (show ¬ (false = true) by decide)] at H
   obtain rfl := Option.some.inj H
   go_enter Tryz.func71, Tryz.ntmps71
   go_wp2_with (first | ((with_reducible refine gate_callee (f := 77) rfl ?_); refine goesL_ (some 6) rfl rfl Tryz.func77 (by kernel_rfl) rfl #[.int .i64 a0, .int .i64 1, .int .i64 12] rfl z4_0_ ?_; (with_reducible refine (spec_l1In.calls a0 1 12 true _ A3.out).mono ?_); rintro e w' ⟨rfl, ⟨nd, rfl⟩⟩; refine ⟨_, rfl, ?_⟩) | (go_at_call 67; (with_reducible refine (spec_leSum.calls a1 false _ A5.out).mono ?_); rintro e w' ⟨rfl, ⟨nd, rfl⟩⟩))
   go_ret
   exact ⟨by first | rfl | (simp; done) | (simp [*]; done), by repeat (first | exact Drawn0.refl _ | apply Drawn0.step)⟩
 replace c4 := Bool.eq_false_iff.mpr c4
 subst c4
 rw [if_neg (show ¬ (false = true) by decide)] at H
 obtain rfl := Option.some.inj H
 go_enter Tryz.func71, Tryz.ntmps71
 go_wp2_with (first | ((with_reducible refine gate_callee (f := 77) rfl ?_); refine goesL_ (some 6) rfl rfl Tryz.func77 (by kernel_rfl) rfl #[.int .i64 a0, .int .i64 1, .int .i64 12] rfl z4_0_ ?_; (with_reducible refine (spec_l1In.calls a0 1 12 false _ A3.out).mono ?_); rintro e w' ⟨rfl, ⟨nd, rfl⟩⟩; refine ⟨_, rfl, ?_⟩))
 go_ret
 exact ⟨by first | rfl | (simp; done) | (simp [*]; done), by repeat (first | exact Drawn0.refl _ | apply Drawn0.step)⟩

/-! ### spec_LeastOfDigits: function 17 -/
def spec_LeastOfDigits.l0 : Nat → Int → Int → Int → Int → Int → Option (Int × Bool)
 | 0, _, _, _, _, _ => none
 | k + 1, x0, x1, x6, x7, x8 => if x8 < x0 then (spec_LeastOfDigits.l0 k x0 x1 x6 (wrap64 (x7 * 10)) (wrap64 (x8 + 1))) else ((spec_leFill.f k (wrap64 (x0 - 1)) (wrap64 (x1 - x6)) false).bind fun t270 => (some (wrap64 (x7 + t270), true)))
def spec_LeastOfDigits.f (k : Nat) (a0 : Int) (a1 : Int) : Option (Int × Bool) := (spec_leDigits.f a0 a1).bind fun t268 => (if t268 = true then (if a1 = 0 then (some (0, true)) else ((spec_l1Most.f 1 (wrap64 (a1 - (wrap64 (9 * (wrap64 (a0 - 1))))))).bind fun t269 => (spec_LeastOfDigits.l0 k a0 a1 t269 t269 1))) else (some (0, false)))
theorem spec_LeastOfDigits.mono_l : ∀ k, (∀ y0 y1 y2 y3 y4, LeO (spec_LeastOfDigits.l0 k y0 y1 y2 y3 y4) (spec_LeastOfDigits.l0 (k + 1) y0 y1 y2 y3 y4))
 | 0 => fun _ _ _ _ _ r h => by simp [spec_LeastOfDigits.l0] at h
 | k + 1 => by
  have ih0 := spec_LeastOfDigits.mono_l k
  intro y0 y1 y2 y3 y4
  unfold spec_LeastOfDigits.l0
  repeat' first
  | (with_reducible exact ih0 _ _ _ _ _)
  | (with_reducible exact spec_leFill.mono _ _ _ _)
  | (with_reducible exact LeO.refl _)
  | (with_reducible exact LeO.none _)
  | (with_reducible refine LeO.ite ?_ ?_)
  | (with_reducible refine LeO.bind ?_ (fun _ => ?_))
  | exact ih0 _ _ _ _ _
  | exact spec_leFill.mono _ _ _ _
  | exact LeO.none _
  | refine LeO.ite ?_ ?_
  | refine LeO.bind ?_ (fun _ => ?_)
theorem spec_LeastOfDigits.mono : ∀ a0 a1 k, LeO (spec_LeastOfDigits.f k a0 a1) (spec_LeastOfDigits.f (k + 1) a0 a1) := by
 intro a0 a1 k
 have ih0 := spec_LeastOfDigits.mono_l k
 unfold spec_LeastOfDigits.f
 repeat' first
  | (with_reducible exact ih0 _ _ _ _ _)
  | (with_reducible exact spec_leFill.mono _ _ _ _)
  | (with_reducible exact LeO.refl _)
  | (with_reducible exact LeO.none _)
  | (with_reducible refine LeO.ite ?_ ?_)
  | (with_reducible refine LeO.bind ?_ (fun _ => ?_))
  | exact ih0 _ _ _ _ _
  | exact spec_leFill.mono _ _ _ _
  | exact LeO.none _
  | refine LeO.ite ?_ ?_
  | refine LeO.bind ?_ (fun _ => ?_)
set_option maxHeartbeats 8000000 in
set_option maxRecDepth 100000 in
theorem spec_LeastOfDigits.calls (k : Nat) (a0 : Int) (a1 : Int) (r1 : Int) (r2 : Bool) (w : World) (h : spec_LeastOfDigits.f k a0 a1 = some (r1, r2)) :
 Calls Tryz.prog 17 #[.int .i64 a0, .int .i64 a1] w fun e w' => e = .returned (.tuple #[.int .i64 r1, .bool r2]) ∧ Drawn0 w w' := by
 have H : ((spec_leDigits.f a0 a1).bind fun t268 => (if t268 = true then (if a1 = 0 then (some (0, true)) else ((spec_l1Most.f 1 (wrap64 (a1 - (wrap64 (9 * (wrap64 (a0 - 1))))))).bind fun t269 => (spec_LeastOfDigits.l0 k a0 a1 t269 t269 1))) else (some (0, false)))) = some (r1, r2) := h
 clear h
 replace H := Option.bind_eq_some_iff.mp H
 obtain ⟨t268, A30, H⟩ := H
 have A3 := Aside0.mk A30
 clear A30
 by_cases c4 : t268 = true
 · subst c4
   have H1 : (if a1 = 0 then (some (0, true)) else ((spec_l1Most.f 1 (wrap64 (a1 - (wrap64 (9 * (wrap64 (a0 - 1))))))).bind fun t269 => (spec_LeastOfDigits.l0 k a0 a1 t269 t269 1))) = some (r1, r2) := by rw [if_pos rfl] at H; exact H
   clear H
   have H := H1
   clear H1
   by_cases c5 : a1 = 0
   · rw [if_pos c5] at H
     have c5b0 : (a1 == 0) = true := beq_iff_eq.mpr c5
     have c5b1 : (a1 != 0) = false := bne_eq_false_iff_eq.mpr c5
     clear c5
     simp only [Option.some.injEq, Prod.mk.injEq] at H
     obtain ⟨rfl, rfl⟩ := H
     go_enter Tryz.func17, Tryz.ntmps17
     go_wp2_with (first | ((with_reducible refine gate_callee (f := 71) rfl ?_); refine goesL_ (some 11) rfl rfl Tryz.func71 (by kernel_rfl) rfl #[.int .i64 a0, .int .i64 a1] rfl z4_0_ ?_; (with_reducible refine (spec_leDigits.calls a0 a1 true _ A3.out).mono ?_); rintro e w' ⟨rfl, ⟨nd, rfl⟩⟩; refine ⟨_, rfl, ?_⟩))
     go_ret2
     exact ⟨by first | rfl | (simp; done) | (simp [*]; done), by repeat (first | exact Drawn0.refl _ | apply Drawn0.step)⟩
   rw [if_neg c5] at H
   have c5b0 : (a1 == 0) = false := beq_eq_false_iff_ne.mpr c5
   have c5b1 : (a1 != 0) = true := bne_iff_ne.mpr c5
   replace H := Option.bind_eq_some_iff.mp H
   obtain ⟨t269, A60, H⟩ := H
   have A6 := Aside0.mk A60
   clear A60
   have H' := Aside0.mk H
   clear H
   go_enter Tryz.func17, Tryz.ntmps17
   go_wp2_with (first | ((with_reducible refine gate_callee (f := 71) rfl ?_); refine goesL_ (some 11) rfl rfl Tryz.func71 (by kernel_rfl) rfl #[.int .i64 a0, .int .i64 a1] rfl z4_0_ ?_; (with_reducible refine (spec_leDigits.calls a0 a1 true _ A3.out).mono ?_); rintro e w' ⟨rfl, ⟨nd, rfl⟩⟩; refine ⟨_, rfl, ?_⟩) | ((with_reducible refine gate_callee (f := 72) rfl ?_); refine goesL_ (some 20) rfl rfl Tryz.func72 (by kernel_rfl) rfl #[.int .i64 1, .int .i64 (wrap64 (a1 - (wrap64 (9 * (wrap64 (a0 - 1))))))] rfl z4_0_ ?_; (with_reducible refine (spec_l1Most.calls 1 (wrap64 (a1 - (wrap64 (9 * (wrap64 (a0 - 1)))))) t269 _ A6.out).mono ?_); rintro e w' ⟨rfl, ⟨nd, rfl⟩⟩; refine ⟨_, rfl, ?_⟩))
   go_loopg [7, 8] k (fun kq v7 v8 w' => ∃ (x7_1 : Int) (x8_1 : Int), v7 = .int .i64 x7_1 ∧ v8 = .int .i64 x8_1 ∧ Aside0 (spec_LeastOfDigits.l0 kq a0 a1 t269 x7_1 x8_1 = some (r1, r2)) ∧ Aside0 (kq ≤ k) ∧ Drawn0 w w')
   case atStart => exact ⟨(t269), (1), z4_2_, z4_2_, H', ⟨Nat.le_refl _⟩, by repeat (first | exact Drawn0.refl _ | apply Drawn0.step)⟩
   case round =>
    clear H'
    (try clear c1);(try clear p2);(try clear c4);(try clear c5);(try clear c5b0);(try clear c5b1);(try clear p6)
    obtain ⟨x7_1, x8_1, rfl, rfl, HA, HK1, ⟨m1, rfl⟩⟩ := hrel
    cases gk with
    | zero => exact absurd HA.out (by simp [spec_LeastOfDigits.l0])
    | succ k1 =>
     have H := HA.out
     clear HA
     simp only [spec_LeastOfDigits.l0] at H
     by_cases c7 : x8_1 < a0
     · rw [if_pos c7] at H
       have c7b0 : decide (x8_1 < a0) = true := decide_eq_true c7
       clear c7
       have H' := Aside0.mk H
       clear H
       go_wp2
       go_roundg k1
       case measure => have := HK1.out; omega
       case rel => exact ⟨(wrap64 (x7_1 * 10)), (wrap64 (x8_1 + 1)), z4_2_, z4_2_, H', ⟨by have := HK1.out; omega⟩, by repeat (first | exact Drawn0.refl _ | apply Drawn0.step)⟩
     rw [if_neg c7] at H
     have c7b0 : decide (x8_1 < a0) = false := decide_eq_false c7
     clear c7
     replace H := Option.bind_eq_some_iff.mp H
     obtain ⟨t270, A80, H⟩ := H
     have A8 := Aside0.mk A80
     clear A80
     simp only [Option.some.injEq, Prod.mk.injEq] at H
     obtain ⟨rfl, rfl⟩ := H
     go_wp2_with (first | ((with_reducible refine gate_callee (f := 68) rfl ?_); refine goesL_ (some 35) rfl rfl Tryz.func68 (by kernel_rfl) rfl #[.int .i64 (wrap64 (a0 - 1)), .int .i64 (wrap64 (a1 - t269)), .bool false] rfl z4_0_ ?_; (with_reducible refine (spec_leFill.calls k1 (wrap64 (a0 - 1)) (wrap64 (a1 - t269)) false t270 _ A8.out).mono ?_); rintro e w' ⟨rfl, ⟨nd, rfl⟩⟩; refine ⟨_, rfl, ?_⟩))
     go_ret2
     exact ⟨by first | rfl | (simp; done) | (simp [*]; done), by repeat (first | exact Drawn0.refl _ | apply Drawn0.step)⟩
 replace c4 := Bool.eq_false_iff.mpr c4
 subst c4
 have H1 : (some (0, false)) = some (r1, r2) := by rw [if_neg (show ¬ (false = true) by decide)] at H; exact H
 clear H
 have H := H1
 clear H1
 simp only [Option.some.injEq, Prod.mk.injEq] at H
 obtain ⟨rfl, rfl⟩ := H
 go_enter Tryz.func17, Tryz.ntmps17
 go_wp2_with (first | ((with_reducible refine gate_callee (f := 71) rfl ?_); refine goesL_ (some 11) rfl rfl Tryz.func71 (by kernel_rfl) rfl #[.int .i64 a0, .int .i64 a1] rfl z4_0_ ?_; (with_reducible refine (spec_leDigits.calls a0 a1 false _ A3.out).mono ?_); rintro e w' ⟨rfl, ⟨nd, rfl⟩⟩; refine ⟨_, rfl, ?_⟩))
 go_ret2
 exact ⟨by first | rfl | (simp; done) | (simp [*]; done), by repeat (first | exact Drawn0.refl _ | apply Drawn0.step)⟩

/-! ### impl_GreatestOfDigits: function 18 -/
def impl_GreatestOfDigits.f (k : Nat) (a0 : Int) (a1 : Int) : Option (Int × Bool) := (impl_ofDigits.f k a0 a1 true).bind fun bt271 => (some (bt271.1, bt271.2))
theorem impl_GreatestOfDigits.mono : ∀ a0 a1 k, LeO (impl_GreatestOfDigits.f k a0 a1) (impl_GreatestOfDigits.f (k + 1) a0 a1) := by
 intro a0 a1 k
 unfold impl_GreatestOfDigits.f
 repeat' first
  | (with_reducible exact impl_ofDigits.mono _ _ _ _)
  | (with_reducible exact LeO.refl _)
  | (with_reducible exact LeO.none _)
  | (with_reducible refine LeO.ite ?_ ?_)
  | (with_reducible refine LeO.bind ?_ (fun _ => ?_))
  | exact impl_ofDigits.mono _ _ _ _
  | exact LeO.none _
  | refine LeO.ite ?_ ?_
  | refine LeO.bind ?_ (fun _ => ?_)
set_option maxHeartbeats 8000000 in
set_option maxRecDepth 100000 in
theorem impl_GreatestOfDigits.calls (k : Nat) (a0 : Int) (a1 : Int) (r1 : Int) (r2 : Bool) (w : World) (hT : Shelf.TabOk w) (h : impl_GreatestOfDigits.f k a0 a1 = some (r1, r2)) :
 Calls Tryz.prog 18 #[.int .i64 a0, .int .i64 a1] w fun e w' => e = .returned (.tuple #[.int .i64 r1, .bool r2]) ∧ Below w.heap.size w w' := by
 have HT := Aside0.mk hT
 clear hT
 have HB := Aside0.mk (Below.refl w.heap.size w)
 have H : ((impl_ofDigits.f k a0 a1 true).bind fun bt271 => (some (bt271.1, bt271.2))) = some (r1, r2) := h
 clear h
 replace H := Option.bind_eq_some_iff.mp H
 obtain ⟨⟨t271, t272⟩, A30, H⟩ := H
 dsimp only at H
 have A3 := Aside0.mk A30
 clear A30
 simp only [Option.some.injEq, Prod.mk.injEq] at H
 obtain ⟨rfl, rfl⟩ := H
 go_enter Tryz.func18, Tryz.ntmps18
 go_wp2_with (first | ((with_reducible refine gate_callee (f := 70) rfl ?_); refine goesL_ (some 8) rfl rfl Tryz.func70 (by kernel_rfl) rfl #[.int .i64 a0, .int .i64 a1, .bool true] rfl z4_0_ ?_; (with_reducible refine (impl_ofDigits.calls k a0 a1 true t271 t272 _ ?side1 A3.out).mono ?_); (case side1 => exact Shelf.TabOk.below HT.out z4_1_); rintro e w4 ⟨rfl, hb⟩; refine ⟨_, rfl, ?_⟩; have n0_ := Aside0.mk (below_step z4_1_ hb); clear HB; have HB := n0_; clear n0_; (try clear hb); (try clear hb2); (try clear hk); (try clear hi)))
 go_ret2
 exact ⟨by first | rfl | (simp [errW_none, errW_some] <;> rfl) | (simp [*, errW_none, errW_some] <;> rfl), by repeat (first | (with_reducible first | exact HB.out | apply below_alloc | apply pw_below_drewN | apply below_drew1) | exact HB.out)⟩

end Go.Proofs.YtogonichanoeaaaGreatDoor.PFnLeastOfSums

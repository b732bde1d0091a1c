-- Laid by this session's program gprint.py over the kit's print.
import Derived.Test.YtgpakeadepcgnaaDoorPFnExactNeedlessCluesx0
import Derived.Test.YtgpakeadepcgnaaDoorPFnExactNeedlessCluesx1
import Derived.Test.YtgpakeadepcgnaaDoorPFnExactNeedlessCluesx2
import Derived.Test.YtgpakeadepcgnaaDoorPFnExactNeedlessCluesx5
import Derived.Test.YtgpakeadepcgnaaDoorPFnExactNeedlessCluesx8
namespace Go.Proofs.YtgpakeadepcgnaaDoor.PFnExactNeedlessClues
open Go.RowKit Go.Proofs.YtgpakeadepcgnaaDoorW.PrintWords Go.Proofs.YtgpakeadepcgnaaDoorW.PrintLast Go.Proofs.YtgpakeadepcgnaaDoorW.PrintMore
attribute [local go_sem] max2_int min2_int max_two min_two max_three min_three max_four min_four   -- for this text's walks alone
set_option linter.unusedVariables false
set_option linter.unusedSimpArgs false
theorem z9_0_ {p : Prop} (h : p := by (try simp only [List.map_toArray, List.map_cons, List.map_nil]); first | done | rfl | (simp only [List.length_drop, List.length_take]; rfl)) : p := h
theorem z9_1_ {p : Prop} (h : p := by repeat (first | (with_reducible first | exact HB.out | apply below_alloc | apply pw_below_drewN | apply below_drew1 | refine below_set ?_ GE223.out) | exact HB.out)) : p := h
theorem z9_2_ {p : Prop} (h : p := by first | exact hk_.1.1.2 | exact hk_.1.1.1 | exact hk_.1.1.1.2 | exact hk_.1.1.1.1 | exact hk_.1.2 | exact hk_.1.2.1 | exact hk_.1.1 | exact hk_.2.1 | exact hk_.2.2 | exact hk_.1 | exact hk_.2) : p := h
theorem z9_3_ {p : Prop} (h : p := by repeat (first | (with_reducible first | exact HB.out | apply below_alloc | apply pw_below_drewN | apply below_drew1 | refine below_set ?_ GE240.out | refine below_set ?_ GE252.out) | exact HB.out)) : p := h
theorem z9_4_ {p : Prop} (h : p := by repeat (first | (with_reducible first | exact HB.out | apply below_alloc | apply pw_below_drewN | apply below_drew1 | refine below_set ?_ GE240.out) | exact HB.out)) : p := h
theorem z9_5_ {p : Prop} (h : p := by first | exact hk_ hs_ | exact hk_.1.1.2 hs_ | exact hk_.1.1.1 hs_ | exact hk_.1.1.1.2 hs_ | exact hk_.1.2 hs_ | exact hk_.1.2.1 hs_ | exact hk_.1.1 hs_ | exact hk_.2.1 hs_ | exact hk_.2.2 hs_ | exact hk_.1 hs_ | exact hk_.2 hs_) : p := h
theorem z9_6_ {p : Prop} (h : p := by (with_reducible repeat (first | refine blk_drewN ?_ _ | refine blk_drew ?_ | refine blk_alloc ?_ _)); exact BK240.out) : p := h
theorem z9_7_ {p : Prop} (h : p := by repeat (first | (with_reducible first | exact HB.out | apply below_alloc | apply pw_below_drewN | apply below_drew1) | exact HB.out)) : p := h
theorem z9_8_ {p : Prop} (h : p := by (with_reducible repeat (first | refine blk_drewN ?_ _ | refine blk_drew ?_ | refine blk_alloc ?_ _)); exact BK223.out) : p := h
theorem z9_9_ {p : Prop} (h : p := by (with_reducible repeat (first | apply Kd.R_alloc | apply Kd.R_drewN | apply Kd.R_drew)); exact HO244.out) : p := h
theorem z9_10_ {p : Prop} (h : p := by (with_reducible repeat (first | refine blk_drewN ?_ _ | refine blk_drew ?_ | refine blk_alloc ?_ _)); exact BK252.out) : p := h
theorem z9_11_ {p : Prop} (h : p := by (with_reducible repeat (first | apply Kd.R_alloc | apply Kd.R_drewN | apply Kd.R_drew)); exact HO247.out) : p := h
theorem z9_12_ {p : Prop} (h : p := by (with_reducible repeat (first | apply Kd.R_alloc | apply Kd.R_drewN | apply Kd.R_drew)); exact HO251.out) : p := h
theorem z9_13_ {p : Prop} (h : p := by (with_reducible repeat (first | apply Kd.R_alloc | apply Kd.R_drewN | apply Kd.R_drew)); exact HO_4.out) : p := h
theorem z9_14_ {p : Prop} (h : p := by (with_reducible repeat (first | apply Kd.R_alloc | apply Kd.R_drewN | apply Kd.R_drew)); exact HO255.out) : p := h
theorem z9_15_ {p : Prop} (h : p := by (try simp only [List.map_toArray, List.map_cons, List.map_nil]); first | done | (rw [show t268.length = t253.length from (Kd.R_reads' HO255.out).1.symm] <;> rfl) | rfl | (simp only [List.length_drop, List.length_take]; rfl)) : p := h
theorem z9_16_ {p : Prop} (h : p := by (with_reducible repeat (first | apply Kd.R_alloc | apply Kd.R_drewN | apply Kd.R_drew)); exact HO261.out) : p := h
theorem z9_17_ {p : Prop} (h : p := by (with_reducible repeat (first | apply Kd.R_alloc | apply Kd.R_drewN | apply Kd.R_drew)); exact HO233.out) : p := h

/-! ### impl_NeedlessClues: function 46 -/
def impl_NeedlessClues.l0 : Nat → List Int → Int → Int → Int → List (S26) → Option (List Int × Bool)
 | 0, _, _, _, _, _ => none
 | k + 1, x4, x5, x17, x18, x224000 => if x18 < x17 then ((impl_dropped.f x224000 x18).bind fun t231 => ((impl_solutions.f k t231).bind fun t234 => (if (t234.length : Int) = x5 then (if x4.length < 17592186044416 then (impl_NeedlessClues.l0 k (x4 ++ [x18]) x5 x17 (wrap64 (x18 + 1)) x224000) else (none)) else (impl_NeedlessClues.l0 k x4 x5 x17 (wrap64 (x18 + 1)) x224000)))) else (some (x4, true))
def impl_NeedlessClues.f (k : Nat) (l0_0 : List (S26)) : Option (List Int × Bool) := (impl_IsPuzzle.f k l0_0).bind fun t224 => (if t224 = true then ((impl_solutions.f k l0_0).bind fun t228 => (impl_NeedlessClues.l0 k (([] : List Int)) (t228.length : Int) (l0_0.length : Int) 0 l0_0)) else (some (([] : List Int), false)))
theorem impl_NeedlessClues.mono_l : ∀ k, (∀ y0 y1 y2 y3 y4, LeO (impl_NeedlessClues.l0 k y0 y1 y2 y3 y4) (impl_NeedlessClues.l0 (k + 1) y0 y1 y2 y3 y4))
 | 0 => fun _ _ _ _ _ r h => by simp [impl_NeedlessClues.l0] at h
 | k + 1 => by
  have ih0 := impl_NeedlessClues.mono_l k
  intro y0 y1 y2 y3 y4
  unfold impl_NeedlessClues.l0
  repeat' first
  | (with_reducible exact ih0 _ _ _ _ _)
  | (with_reducible exact impl_IsPuzzle.mono _ _)
  | (with_reducible exact impl_solutions.mono _ _)
  | (with_reducible exact LeO.refl _)
  | (with_reducible exact LeO.none _)
  | (with_reducible refine LeO.ite ?_ ?_)
  | (with_reducible refine LeO.bind ?_ (fun _ => ?_))
  | exact ih0 _ _ _ _ _
  | exact impl_IsPuzzle.mono _ _
  | exact impl_solutions.mono _ _
  | exact LeO.none _
  | refine LeO.ite ?_ ?_
  | refine LeO.bind ?_ (fun _ => ?_)
theorem impl_NeedlessClues.mono : ∀ a0 k, LeO (impl_NeedlessClues.f k a0) (impl_NeedlessClues.f (k + 1) a0) := by
 intro a0 k
 have ih0 := impl_NeedlessClues.mono_l k
 unfold impl_NeedlessClues.f
 repeat' first
  | (with_reducible exact ih0 _ _ _ _ _)
  | (with_reducible exact impl_IsPuzzle.mono _ _)
  | (with_reducible exact impl_solutions.mono _ _)
  | (with_reducible exact LeO.refl _)
  | (with_reducible exact LeO.none _)
  | (with_reducible refine LeO.ite ?_ ?_)
  | (with_reducible refine LeO.bind ?_ (fun _ => ?_))
  | exact ih0 _ _ _ _ _
  | exact impl_IsPuzzle.mono _ _
  | exact impl_solutions.mono _ _
  | exact LeO.none _
  | refine LeO.ite ?_ ?_
  | refine LeO.bind ?_ (fun _ => ?_)
set_option maxHeartbeats 8000000 in
set_option maxRecDepth 100000 in
theorem impl_NeedlessClues.calls (k : Nat) (A0_0 : Option Addr) (c0_0 : Nat) (l0_0 : List (S26)) (r1 : List Int) (r2 : Bool) (w : World) (hr0_0 : Kd.C k26 w A0_0 l0_0.length l0_0) (hc0_0 : l0_0.length ≤ c0_0) (h : impl_NeedlessClues.f k l0_0 = some (r1, r2)) :
 Calls Tryd.prog 46 #[.agg #[.slice A0_0 l0_0.length c0_0]] w fun e w' => ∃ v0_ : Value, e = .returned (.tuple #[v0_, .bool r2]) ∧ Kd.R (Kd.int .i64) 3 w' w.heap.size (fun _ => True) v0_ r1 ∧ Below w.heap.size w w' := by
 have hu37 := Tryd.underlying37
 have HR0_0 := Aside0.mk hr0_0
 have HC0_0 := Aside0.mk hc0_0
 clear hr0_0 hc0_0
 have HB := Aside0.mk (Below.refl w.heap.size w)
 have H : ((impl_IsPuzzle.f k l0_0).bind fun t224 => (if t224 = true then ((impl_solutions.f k l0_0).bind fun t228 => (impl_NeedlessClues.l0 k (([] : List Int)) (t228.length : Int) (l0_0.length : Int) 0 l0_0)) else (some (([] : List Int), false)))) = some (r1, r2) := h
 clear h
 replace H := Option.bind_eq_some_iff.mp H
 obtain ⟨t224, A20, H⟩ := H
 have A2 := Aside0.mk A20
 clear A20
 by_cases c3 : t224 = true
 · subst c3
   have H1 : ((impl_solutions.f k l0_0).bind fun t228 => (impl_NeedlessClues.l0 k (([] : List Int)) (t228.length : Int) (l0_0.length : Int) 0 l0_0)) = some (r1, r2) := by rw [if_pos rfl] at H; exact H
   clear H
   have H := H1
   clear H1
   obtain ⟨y225, hy225⟩ : ∃ y_ : List Int, y_ = (([] : List Int)) := ⟨_, rfl⟩
   replace H : ((impl_solutions.f k l0_0).bind fun t228 => (impl_NeedlessClues.l0 k y225 (t228.length : Int) (l0_0.length : Int) 0 l0_0)) = some (r1, r2) := by first | (rw [hy225]; with_reducible exact H) | (have H2_ := (Option.bind_some _ _).symm.trans H; rw [hy225]; with_reducible exact H2_) | (have H2_ := (Option.bind_some _ _).symm.trans H; with_reducible exact H2_) | with_reducible exact H | (rw [hy225]; exact H) | exact H
   have Ny225 := Aside0.mk hy225
   clear hy225
   replace H := Option.bind_eq_some_iff.mp H
   obtain ⟨t228, A40, H⟩ := H
   have A4 := Aside0.mk A40
   clear A40
   have H' := Aside0.mk H
   clear H
   go_enter Tryd.func46, Tryd.ntmps46
   go_wp2_with (first | ((with_reducible refine gate_dst (N := 1) rfl ?_); refine box_event ?hg (N := 1) ?hd (cs := #[.slice A0_0 l0_0.length c0_0]) (t := 37) ?hr ?_; (case hd => rfl); (case hg => rfl); (case hr => first | (go_simp; done) | (go_simp; rfl)); intro gb223 hg w5 hbox hb; have n0_ := Aside0.mk (below_step z9_7_ hb); have n1_ := Aside0.mk (hbox); have n2_ := Aside0.mk ((by rw [hg]; exact (below_size z9_7_) : w.heap.size ≤ gb223)); have n3_ := Aside0.mk ((by rw [hg]; exact (below_size z9_7_) : w.heap.size ≤ gb223)); clear HB; have HB := n0_; have BK223 := n1_; have GW223 := n2_; have GE223 := n3_; clear n0_ n1_ n2_ n3_; clear hb hbox hg; have hcz6_0 : w5.cell? ⟨gb223, 0, none⟩ = some (.slice A0_0 l0_0.length c0_0) := (blk_cell BK223.out 0).trans rfl; have hfz6_0 := blk_frozen BK223.out 0) | ((with_reducible refine gate_callee (f := 71) rfl ?_); refine goesL_ (some 8) rfl rfl Tryd.func71 (by kernel_rfl) rfl #[.agg #[.slice A0_0 l0_0.length c0_0]] rfl z9_0_ ?_; (with_reducible refine (impl_IsPuzzle.calls k _ _ l0_0 true _ ?side1 ?side2 A2.out).mono ?_); (case side1 => repeat (first | exact (Kd.C_below HR0_0.out HB.out) | (with_reducible refine Kd.C_alloc ?_ _) | (with_reducible refine Kd.C_drewN ?_ _) | (with_reducible refine Kd.C_drew ?_))); (case side2 => exact HC0_0.out); rintro e w7 ⟨rfl, hb⟩; refine ⟨_, rfl, ?_⟩; have n0_ := Aside0.mk (blk_below (g := gb223) (o := .cells #[.slice A0_0 l0_0.length c0_0] 37 (0, 0)) z9_8_ hb); have n1_ := Aside0.mk (below_step z9_1_ hb); clear BK223; clear HB; have BK223 := n0_; have HB := n1_; clear n0_ n1_; (try clear hb); (try clear hb2); (try clear hk); (try clear hi)) | ((with_reducible refine gate_dst (N := 10) rfl ?_); refine Kd.R_lit (Kd.int .i64) _ 3 ?hg (N := 10) ?hd (xs := ([] : List Int)) (inner := []) (ok := fun _ => True) (okp := fun _ => True) ?hr ?hp (fun _ hk => hk) trivial (Below.refl _ _) (Nat.le_refl _) (by simp) ?_; (case hd => rfl); (case hg => rfl); (case hr => first | (go_simp; done) | (go_simp; rfl)); (case hp => exact (Reps.none _ _)); intro v226 w8 ho9 hb hg_ hnew_; clear hg_ hnew_; (first | rw [← Ny225.out] at ho9 | (simp only [Int.reduceToNat] at ho9; rw [← Ny225.out] at ho9)); have n0_ := Aside0.mk (Kd.R_lower ho9 (below_size z9_1_)); have n1_ := Aside0.mk (blk_below (g := gb223) (o := .cells #[.slice A0_0 l0_0.length c0_0] 37 (0, 0)) z9_8_ hb); have n2_ := Aside0.mk (below_step z9_1_ hb); clear BK223; clear HB; have HO227 := n0_; have BK223 := n1_; have HB := n2_; clear n0_ n1_ n2_; clear hb ho9; have hcz10_0 : w8.cell? ⟨gb223, 0, none⟩ = some (.slice A0_0 l0_0.length c0_0) := (blk_cell BK223.out 0).trans rfl; have hfz10_0 := blk_frozen BK223.out 0) | ((with_reducible refine gate_callee (f := 72) rfl ?_); refine goesL_ (some 13) rfl rfl Tryd.func72 (by kernel_rfl) rfl #[.slice A0_0 l0_0.length c0_0] rfl z9_0_ ?_; (with_reducible refine (impl_solutions.calls k _ _ l0_0 t228 _ ?side1 ?side2 A4.out).mono ?_); (case side1 => repeat (first | exact (Kd.C_below HR0_0.out HB.out) | (with_reducible refine Kd.C_alloc ?_ _) | (with_reducible refine Kd.C_drewN ?_ _) | (with_reducible refine Kd.C_drew ?_))); (case side2 => exact HC0_0.out); rintro e w11 ⟨v229, rfl, ho0, hb⟩; refine ⟨_, rfl, ?_⟩; have n0_ := Aside0.mk (Kd.R_below (by (with_reducible repeat (first | apply Kd.R_alloc | apply Kd.R_drewN | apply Kd.R_drew)); exact HO227.out) hb); have n1_ := Aside0.mk (Kd.R_lower ho0 (below_size z9_1_)); have n2_ := Aside0.mk (blk_below (g := gb223) (o := .cells #[.slice A0_0 l0_0.length c0_0] 37 (0, 0)) z9_8_ hb); have n3_ := Aside0.mk (below_step z9_1_ hb); clear HO227; clear BK223; clear HB; have HO227 := n0_; have HO230 := n1_; have BK223 := n2_; have HB := n3_; clear n0_ n1_ n2_ n3_; (try clear hb); (try clear hb2); (try clear hk); (try clear hi); (try clear ho0); obtain ⟨Ao12, co12, eo12⟩ := Kd.R_slice HO230.out; subst eo12; have hcz13_0 : w11.cell? ⟨gb223, 0, none⟩ = some (.slice A0_0 l0_0.length c0_0) := (blk_cell BK223.out 0).trans rfl; have hfz13_0 := blk_frozen BK223.out 0))
   go_loopg [4, 18] k (fun kq v4 v18 w' => ∃ (x4_1 : List Int) (x18_1 : Int), v18 = .int .i64 x18_1 ∧ Aside0 (impl_NeedlessClues.l0 kq x4_1 (t228.length : Int) (l0_0.length : Int) x18_1 l0_0 = some (r1, r2)) ∧ Aside0 (kq ≤ k) ∧ Aside0 (Kd.R (Kd.int .i64) 3 w' w.heap.size (fun _ => True) v4 x4_1) ∧ Aside0 (w'.heap[gb223]? = some (.cells #[(.slice A0_0 l0_0.length c0_0)] 37 (0, 0))) ∧ Aside0 (Below w.heap.size w w'))
   case atStart => exact ⟨(y225), (0), (by first | rfl | (simp; done) | (simp [*]; done)), H', ⟨Nat.le_refl _⟩, ⟨by (with_reducible repeat (first | apply Kd.R_alloc | apply Kd.R_drewN | apply Kd.R_drew)); exact HO227.out⟩, ⟨by (with_reducible repeat (first | refine blk_drewN ?_ _ | refine blk_drew ?_ | refine blk_alloc ?_ _)); exact BK223.out⟩, ⟨by repeat (first | (with_reducible first | exact HB.out | apply below_alloc | apply pw_below_drewN | apply below_drew1 | refine below_set ?_ GE223.out) | exact HB.out)⟩⟩
   case round =>
    clear H'
    (try clear p2);(try clear c3);(try clear c4);(try clear c7);(try clear hcz10_0);(try clear hcz13_0);(try clear hcz6_0);(try clear hfz10_0);(try clear hfz13_0);(try clear hfz6_0)
    obtain ⟨x4_1, x18_1, rfl, HA, HK1, HO_4, BK223, HB⟩ := hrel
    cases gk with
    | zero => exact absurd HA.out (by simp [impl_NeedlessClues.l0])
    | succ k1 =>
     have H := HA.out
     clear HA
     simp only [impl_NeedlessClues.l0] at H
     by_cases c14 : x18_1 < (l0_0.length : Int)
     · rw [if_pos c14] at H
       have c14b0 : decide (x18_1 < (l0_0.length : Int)) = true := decide_eq_true c14
       clear c14
       replace H := Option.bind_eq_some_iff.mp H
       obtain ⟨t231, A150, H⟩ := H
       have A15 := Aside0.mk A150
       clear A150
       replace H := Option.bind_eq_some_iff.mp H
       obtain ⟨t234, A160, H⟩ := H
       have A16 := Aside0.mk A160
       clear A160
       by_cases c17 : (t234.length : Int) = (t228.length : Int)
       · rw [if_pos c17] at H
         have c17b0 : ((t234.length : Int) == (t228.length : Int)) = true := beq_iff_eq.mpr c17
         have c17b1 : ((t234.length : Int) != (t228.length : Int)) = false := bne_eq_false_iff_eq.mpr c17
         have c17b2 : (t234.length == t228.length) = true := by first | simpa using c17 | (simp at c17 ⊢; omega)
         clear c17
         by_cases c18 : x4_1.length < 17592186044416
         rotate_left
         · exact none_ (if_neg c18) H
         rw [if_pos c18] at H
         have LMc18 := Aside0.mk c18
         clear c18
         obtain ⟨y237, hy237⟩ : ∃ y_ : List Int, y_ = (x4_1 ++ [x18_1]) := ⟨_, rfl⟩
         replace H : (impl_NeedlessClues.l0 k1 y237 (t228.length : Int) (l0_0.length : Int) (wrap64 (x18_1 + 1)) l0_0) = some (r1, r2) := by first | (rw [hy237]; with_reducible exact H) | (have H2_ := (Option.bind_some _ _).symm.trans H; rw [hy237]; with_reducible exact H2_) | (have H2_ := (Option.bind_some _ _).symm.trans H; with_reducible exact H2_) | with_reducible exact H | (rw [hy237]; exact H) | exact H
         have Ny237 := Aside0.mk hy237
         clear hy237
         have H' := Aside0.mk H
         clear H
         have hcz19_0 : wr.cell? ⟨gb223, 0, none⟩ = some (.slice A0_0 l0_0.length c0_0) := (blk_cell BK223.out 0).trans rfl
         have hfz19_0 := blk_frozen BK223.out 0
         go_wp2_with (first | ((with_reducible refine gate_callee (f := 75) rfl ?_); refine goesL_ (some 24) rfl rfl Tryd.func75 (by kernel_rfl) rfl #[.slice A0_0 l0_0.length c0_0, .int .i64 x18_1] rfl z9_0_ ?_; (with_reducible refine (impl_dropped.calls _ _ l0_0 x18_1 t231 _ ?side1 ?side2 A15.out).mono ?_); (case side1 => repeat (first | exact (Kd.C_below HR0_0.out HB.out) | (with_reducible refine Kd.C_alloc ?_ _) | (with_reducible refine Kd.C_drewN ?_ _) | (with_reducible refine Kd.C_drew ?_))); (case side2 => exact HC0_0.out); rintro e w20 ⟨v232, rfl, ho0, hb⟩; refine ⟨_, rfl, ?_⟩; have n0_ := Aside0.mk (Kd.R_below z9_13_ hb); have n1_ := Aside0.mk (Kd.R_lower ho0 (below_size z9_1_)); have n2_ := Aside0.mk (blk_below (g := gb223) (o := .cells #[.slice A0_0 l0_0.length c0_0] 37 (0, 0)) z9_8_ hb); have n3_ := Aside0.mk (below_step z9_1_ hb); clear HO_4; clear BK223; clear HB; have HO_4 := n0_; have HO233 := n1_; have BK223 := n2_; have HB := n3_; clear n0_ n1_ n2_ n3_; (try clear hb); (try clear hb2); (try clear hk); (try clear hi); (try clear ho0); obtain ⟨Ao21, co21, eo21⟩ := Kd.R_slice HO233.out; subst eo21) | ((with_reducible refine gate_callee (f := 72) rfl ?_); refine goesL_ (some 25) rfl rfl Tryd.func72 (by kernel_rfl) rfl #[.slice Ao21 t231.length co21] rfl z9_0_ ?_; (with_reducible refine (impl_solutions.calls k1 _ _ t231 t234 _ ?side1 ?side2 A16.out).mono ?_); (case side1 => repeat (first | exact (Kd.R_reads' HO233.out).2.2 | (with_reducible refine Kd.C_alloc ?_ _) | (with_reducible refine Kd.C_drewN ?_ _) | (with_reducible refine Kd.C_drew ?_))); (case side2 => exact (Kd.R_reads' HO233.out).2.1); rintro e w22 ⟨v235, rfl, ho0, hb⟩; refine ⟨_, rfl, ?_⟩; have n0_ := Aside0.mk (Kd.R_below z9_13_ hb); have n1_ := Aside0.mk (Kd.R_below z9_17_ hb); have n2_ := Aside0.mk (Kd.R_lower ho0 (below_size z9_1_)); have n3_ := Aside0.mk (blk_below (g := gb223) (o := .cells #[.slice A0_0 l0_0.length c0_0] 37 (0, 0)) z9_8_ hb); have n4_ := Aside0.mk (below_step z9_1_ hb); clear HO_4; clear HO233; clear BK223; clear HB; have HO_4 := n0_; have HO233 := n1_; have HO236 := n2_; have BK223 := n3_; have HB := n4_; clear n0_ n1_ n2_ n3_ n4_; (try clear hb); (try clear hb2); (try clear hk); (try clear hi); (try clear ho0); obtain ⟨Ao23, co23, eo23⟩ := Kd.R_slice HO236.out; subst eo23) | ((with_reducible refine gate_builtin (b := .append) (xs := #[.tmp 29, .tmp 31]) rfl ?_); at_builtin; refine Kd.R_append (Kd.int .i64) (w0 := w) w.heap.size rfl (.tmp 29) (.tmp 31) 48 3 (.int .i64 0) 8 rfl Tryd.underlying48 info3 rfl (by decide) (by omega) u4 x4_1 x18_1 [.int .i64 x18_1] (fun _ => True) (fun _ => False) rfl rfl ?aP (fun _ hk => hk.elim) ?aF ?aO ?aB ?aS ?aL ?_; (case aP => exact rfl); (case aB => exact z9_1_); (case aF => exact (fun _ _ => trivial)); (case aO => exact z9_13_); (case aS => exact (below_size z9_1_)); (case aL => have := LMc18.out; omega); intro v238 w24 ho hb hg hat; rw [← Ny237.out] at ho; have n0_ := Aside0.mk (blk_grown (g := gb223) (o := .cells #[.slice A0_0 l0_0.length c0_0] 37 (0, 0)) z9_8_ hg (Kd.R_ne HO_4.out BK223.out (by decide))); have n1_ := Aside0.mk (Kd.R_over' z9_17_ (Kd.R_typed z9_13_) (by decide) hg); have n2_ := Aside0.mk (Kd.R_over' (by (with_reducible repeat (first | apply Kd.R_alloc | apply Kd.R_drewN | apply Kd.R_drew)); exact HO236.out) (Kd.R_typed z9_13_) (by decide) hg); have n3_ := Aside0.mk (hb); have n4_ := Aside0.mk (ho); clear BK223; clear HO233; clear HO236; clear HB; clear HO_4; have BK223 := n0_; have HO233 := n1_; have HO236 := n2_; have HB := n3_; have HO239 := n4_; clear n0_ n1_ n2_ n3_ n4_; clear ho hb hg hat))
         go_roundg k1
         case measure => have := HK1.out; omega
         case rel => exact ⟨(y237), (wrap64 (x18_1 + 1)), (by first | rfl | (simp; done) | (simp [*]; done)), H', ⟨by have := HK1.out; omega⟩, ⟨by (with_reducible repeat (first | apply Kd.R_alloc | apply Kd.R_drewN | apply Kd.R_drew)); exact HO239.out⟩, ⟨by (with_reducible repeat (first | refine blk_drewN ?_ _ | refine blk_drew ?_ | refine blk_alloc ?_ _)); exact BK223.out⟩, ⟨by repeat (first | (with_reducible first | exact HB.out | apply below_alloc | apply pw_below_drewN | apply below_drew1 | refine below_set ?_ GE223.out) | exact HB.out)⟩⟩
       rw [if_neg c17] at H
       have c17b0 : ((t234.length : Int) == (t228.length : Int)) = false := beq_eq_false_iff_ne.mpr c17
       have c17b1 : ((t234.length : Int) != (t228.length : Int)) = true := bne_iff_ne.mpr c17
       have c17b2 : (t234.length == t228.length) = false := by first | simpa using c17 | (simp at c17 ⊢; omega)
       have H' := Aside0.mk H
       clear H
       have hcz25_0 : wr.cell? ⟨gb223, 0, none⟩ = some (.slice A0_0 l0_0.length c0_0) := (blk_cell BK223.out 0).trans rfl
       have hfz25_0 := blk_frozen BK223.out 0
       go_wp2_with (first | ((with_reducible refine gate_callee (f := 75) rfl ?_); refine goesL_ (some 24) rfl rfl Tryd.func75 (by kernel_rfl) rfl #[.slice A0_0 l0_0.length c0_0, .int .i64 x18_1] rfl z9_0_ ?_; (with_reducible refine (impl_dropped.calls _ _ l0_0 x18_1 t231 _ ?side1 ?side2 A15.out).mono ?_); (case side1 => repeat (first | exact (Kd.C_below HR0_0.out HB.out) | (with_reducible refine Kd.C_alloc ?_ _) | (with_reducible refine Kd.C_drewN ?_ _) | (with_reducible refine Kd.C_drew ?_))); (case side2 => exact HC0_0.out); rintro e w26 ⟨v232, rfl, ho0, hb⟩; refine ⟨_, rfl, ?_⟩; have n0_ := Aside0.mk (Kd.R_below z9_13_ hb); have n1_ := Aside0.mk (Kd.R_lower ho0 (below_size z9_1_)); have n2_ := Aside0.mk (blk_below (g := gb223) (o := .cells #[.slice A0_0 l0_0.length c0_0] 37 (0, 0)) z9_8_ hb); have n3_ := Aside0.mk (below_step z9_1_ hb); clear HO_4; clear BK223; clear HB; have HO_4 := n0_; have HO233 := n1_; have BK223 := n2_; have HB := n3_; clear n0_ n1_ n2_ n3_; (try clear hb); (try clear hb2); (try clear hk); (try clear hi); (try clear ho0); obtain ⟨Ao27, co27, eo27⟩ := Kd.R_slice HO233.out; subst eo27) | ((with_reducible refine gate_callee (f := 72) rfl ?_); refine goesL_ (some 25) rfl rfl Tryd.func72 (by kernel_rfl) rfl #[.slice Ao27 t231.length co27] rfl z9_0_ ?_; (with_reducible refine (impl_solutions.calls k1 _ _ t231 t234 _ ?side1 ?side2 A16.out).mono ?_); (case side1 => repeat (first | exact (Kd.R_reads' HO233.out).2.2 | (with_reducible refine Kd.C_alloc ?_ _) | (with_reducible refine Kd.C_drewN ?_ _) | (with_reducible refine Kd.C_drew ?_))); (case side2 => exact (Kd.R_reads' HO233.out).2.1); rintro e w28 ⟨v235, rfl, ho0, hb⟩; refine ⟨_, rfl, ?_⟩; have n0_ := Aside0.mk (Kd.R_below z9_13_ hb); have n1_ := Aside0.mk (Kd.R_below z9_17_ hb); have n2_ := Aside0.mk (Kd.R_lower ho0 (below_size z9_1_)); have n3_ := Aside0.mk (blk_below (g := gb223) (o := .cells #[.slice A0_0 l0_0.length c0_0] 37 (0, 0)) z9_8_ hb); have n4_ := Aside0.mk (below_step z9_1_ hb); clear HO_4; clear HO233; clear BK223; clear HB; have HO_4 := n0_; have HO233 := n1_; have HO236 := n2_; have BK223 := n3_; have HB := n4_; clear n0_ n1_ n2_ n3_ n4_; (try clear hb); (try clear hb2); (try clear hk); (try clear hi); (try clear ho0); obtain ⟨Ao29, co29, eo29⟩ := Kd.R_slice HO236.out; subst eo29))
       go_roundg k1
       case measure => have := HK1.out; omega
       case rel => exact ⟨(x4_1), (wrap64 (x18_1 + 1)), (by first | rfl | (simp; done) | (simp [*]; done)), H', ⟨by have := HK1.out; omega⟩, ⟨by (with_reducible repeat (first | apply Kd.R_alloc | apply Kd.R_drewN | apply Kd.R_drew)); exact HO_4.out⟩, ⟨by (with_reducible repeat (first | refine blk_drewN ?_ _ | refine blk_drew ?_ | refine blk_alloc ?_ _)); exact BK223.out⟩, ⟨by repeat (first | (with_reducible first | exact HB.out | apply below_alloc | apply pw_below_drewN | apply below_drew1 | refine below_set ?_ GE223.out) | exact HB.out)⟩⟩
     rw [if_neg c14] at H
     have c14b0 : decide (x18_1 < (l0_0.length : Int)) = false := decide_eq_false c14
     clear c14
     simp only [Option.some.injEq, Prod.mk.injEq] at H
     obtain ⟨rfl, rfl⟩ := H
     go_wp2
     go_ret2
     exact ⟨_, by first | rfl | (simp [errW_none, errW_some] <;> rfl) | (simp [*, errW_none, errW_some] <;> rfl), by (with_reducible repeat (first | apply Kd.R_alloc | apply Kd.R_drewN | apply Kd.R_drew)); exact HO_4.out, by repeat (first | (with_reducible first | exact HB.out | apply below_alloc | apply pw_below_drewN | apply below_drew1 | refine below_set ?_ GE223.out) | exact HB.out)⟩
 replace c3 := Bool.eq_false_iff.mpr c3
 subst c3
 have H1 : (some (([] : List Int), false)) = some (r1, r2) := by rw [if_neg (show ¬ (false = true) by decide)] at H; exact H
 clear H
 have H := H1
 clear H1
 simp only [Option.some.injEq, Prod.mk.injEq] at H
 obtain ⟨rfl, rfl⟩ := H
 go_enter Tryd.func46, Tryd.ntmps46
 go_wp2_with (first | ((with_reducible refine gate_dst (N := 1) rfl ?_); refine box_event ?hg (N := 1) ?hd (cs := #[.slice A0_0 l0_0.length c0_0]) (t := 37) ?hr ?_; (case hd => rfl); (case hg => rfl); (case hr => first | (go_simp; done) | (go_simp; rfl)); intro gb223 hg w30 hbox hb; have n0_ := Aside0.mk (below_step z9_7_ hb); have n1_ := Aside0.mk (hbox); have n2_ := Aside0.mk ((by rw [hg]; exact (below_size z9_7_) : w.heap.size ≤ gb223)); have n3_ := Aside0.mk ((by rw [hg]; exact (below_size z9_7_) : w.heap.size ≤ gb223)); clear HB; have HB := n0_; have BK223 := n1_; have GW223 := n2_; have GE223 := n3_; clear n0_ n1_ n2_ n3_; clear hb hbox hg; have hcz31_0 : w30.cell? ⟨gb223, 0, none⟩ = some (.slice A0_0 l0_0.length c0_0) := (blk_cell BK223.out 0).trans rfl; have hfz31_0 := blk_frozen BK223.out 0) | ((with_reducible refine gate_callee (f := 71) rfl ?_); refine goesL_ (some 8) rfl rfl Tryd.func71 (by kernel_rfl) rfl #[.agg #[.slice A0_0 l0_0.length c0_0]] rfl z9_0_ ?_; (with_reducible refine (impl_IsPuzzle.calls k _ _ l0_0 false _ ?side1 ?side2 A2.out).mono ?_); (case side1 => repeat (first | exact (Kd.C_below HR0_0.out HB.out) | (with_reducible refine Kd.C_alloc ?_ _) | (with_reducible refine Kd.C_drewN ?_ _) | (with_reducible refine Kd.C_drew ?_))); (case side2 => exact HC0_0.out); rintro e w32 ⟨rfl, hb⟩; refine ⟨_, rfl, ?_⟩; have n0_ := Aside0.mk (blk_below (g := gb223) (o := .cells #[.slice A0_0 l0_0.length c0_0] 37 (0, 0)) z9_8_ hb); have n1_ := Aside0.mk (below_step z9_1_ hb); clear BK223; clear HB; have BK223 := n0_; have HB := n1_; clear n0_ n1_; (try clear hb); (try clear hb2); (try clear hk); (try clear hi)))
 go_ret2
 exact ⟨_, by first | rfl | (simp [errW_none, errW_some] <;> rfl) | (simp [*, errW_none, errW_some] <;> rfl), by first | exact Kd.R_nil _ _ _ _ _ | exact Kd.N_nil _ _ _ _ _ | exact Kd.V_nil _ _ _ _ _ | exact Kd.Q_nil _ _ _ _ _ | exact Kd.S_nil _ _ _ _ _, by repeat (first | (with_reducible first | exact HB.out | apply below_alloc | apply pw_below_drewN | apply below_drew1 | refine below_set ?_ GE223.out) | exact HB.out)⟩

/-! ### laws_FnExactNeedlessClues: function 12 -/
def laws_FnExactNeedlessClues.f (k : Nat) (l0_0 : List (S23)) : Option (Bool) := (laws_szPuzzle.f l0_0 1048576).bind fun t241 => (if t241 < 0 then (some true) else ((laws_toPuzzle.f k l0_0).bind fun t242 => ((spec_NeedlessClues.f k t242).bind fun bt245 => ((laws_toPuzzle.f k l0_0).bind fun t249 => ((impl_NeedlessClues.f k t249).bind fun bt253 => ((laws_eqIntS.f k bt253.1 bt245.1).bind fun t258 => (if t258 = true then (if (bt253.2 != bt245.2) = true then (some false) else ((laws_toPuzzle.f k l0_0).bind fun t259 => ((laws_eqPuzzle.f k t249 t259).bind fun t262 => (if t262 = true then ((laws_markPuzzle.f k t249 1).bind fun bt263 => (if bt263.1 < 0 then (some false) else ((laws_eqIntS.f k bt253.1 bt245.1).bind fun t266 => (if t266 = true then ((laws_markIntS.f k bt253.1 1).bind fun bt267 => ((laws_heldIntS.f k bt267.2 1).bind fun t269 => (if t269 < 0 then (some false) else (if t269 = bt267.1 then ((laws_toPuzzle.f k l0_0).bind fun t270 => ((impl_NeedlessClues.f k t270).bind fun bt273 => ((laws_eqIntS.f k bt273.1 bt245.1).bind fun t278 => (if t278 = true then (if (bt273.2 != bt245.2) = true then (some false) else ((laws_heldIntS.f k bt267.2 1).bind fun t279 => (if t279 < 0 then (some false) else (if t279 = bt267.1 then (some true) else (some false))))) else (some false))))) else (some false))))) else (some false))))) else (some false))))) else (some false))))))))
set_option maxHeartbeats 8000000 in
set_option maxRecDepth 100000 in
theorem laws_FnExactNeedlessClues.calls (k : Nat) (A0_0 : Option Addr) (c0_0 : Nat) (l0_0 : List (S23)) (r : Bool) (w : World) (hr0_0 : Kd.C k23 w A0_0 l0_0.length l0_0) (hc0_0 : l0_0.length ≤ c0_0) (hr_ : Aside0 (r = true)) (h : laws_FnExactNeedlessClues.f k l0_0 = some r) :
 Calls Tryd.prog 12 #[.agg #[.slice A0_0 l0_0.length c0_0]] w fun e w' => e = .returned (.bool r) ∧ Below w.heap.size w w' := by
 have hu31 := Tryd.underlying31
 have hu37 := Tryd.underlying37
 have HR0_0 := Aside0.mk hr0_0
 have HC0_0 := Aside0.mk hc0_0
 clear hr0_0 hc0_0
 have HB := Aside0.mk (Below.refl w.heap.size w)
 have H : ((laws_szPuzzle.f l0_0 1048576).bind fun t241 => (if t241 < 0 then (some true) else ((laws_toPuzzle.f k l0_0).bind fun t242 => ((spec_NeedlessClues.f k t242).bind fun bt245 => ((laws_toPuzzle.f k l0_0).bind fun t249 => ((impl_NeedlessClues.f k t249).bind fun bt253 => ((laws_eqIntS.f k bt253.1 bt245.1).bind fun t258 => (if t258 = true then (if (bt253.2 != bt245.2) = true then (some false) else ((laws_toPuzzle.f k l0_0).bind fun t259 => ((laws_eqPuzzle.f k t249 t259).bind fun t262 => (if t262 = true then ((laws_markPuzzle.f k t249 1).bind fun bt263 => (if bt263.1 < 0 then (some false) else ((laws_eqIntS.f k bt253.1 bt245.1).bind fun t266 => (if t266 = true then ((laws_markIntS.f k bt253.1 1).bind fun bt267 => ((laws_heldIntS.f k bt267.2 1).bind fun t269 => (if t269 < 0 then (some false) else (if t269 = bt267.1 then ((laws_toPuzzle.f k l0_0).bind fun t270 => ((impl_NeedlessClues.f k t270).bind fun bt273 => ((laws_eqIntS.f k bt273.1 bt245.1).bind fun t278 => (if t278 = true then (if (bt273.2 != bt245.2) = true then (some false) else ((laws_heldIntS.f k bt267.2 1).bind fun t279 => (if t279 < 0 then (some false) else (if t279 = bt267.1 then (some true) else (some false))))) else (some false))))) else (some false))))) else (some false))))) else (some false))))) else (some false))))))))) = some r := h
 clear h
 replace H := Option.bind_eq_some_iff.mp H
 obtain ⟨t241, A20, H⟩ := H
 have A2 := Aside0.mk A20
 clear A20
 by_cases c3 : t241 < 0
 · rw [if_pos c3] at H
   have c3b0 : decide (t241 < 0) = true := decide_eq_true c3
   clear c3
   obtain rfl := Option.some.inj H
   go_enter Tryd.func12, Tryd.ntmps12
   go_wp2_with (first | ((with_reducible refine gate_dst (N := 1) rfl ?_); refine box_event ?hg (N := 1) ?hd (cs := #[.slice A0_0 l0_0.length c0_0]) (t := 31) ?hr ?_; (case hd => rfl); (case hg => rfl); (case hr => first | (go_simp; done) | (go_simp; rfl)); intro gb240 hg w4 hbox hb; have n0_ := Aside0.mk (below_step z9_7_ hb); have n1_ := Aside0.mk (hbox); have n2_ := Aside0.mk ((by rw [hg]; exact (below_size z9_7_) : w.heap.size ≤ gb240)); have n3_ := Aside0.mk ((by rw [hg]; exact (below_size z9_7_) : w.heap.size ≤ gb240)); clear HB; have HB := n0_; have BK240 := n1_; have GW240 := n2_; have GE240 := n3_; clear n0_ n1_ n2_ n3_; clear hb hbox hg; have hcz5_0 : w4.cell? ⟨gb240, 0, none⟩ = some (.slice A0_0 l0_0.length c0_0) := (blk_cell BK240.out 0).trans rfl; have hfz5_0 := blk_frozen BK240.out 0) | ((with_reducible refine gate_callee (f := 18) rfl ?_); refine goesL_ (some 16) rfl rfl Tryd.func18 (by kernel_rfl) rfl #[.agg #[.slice A0_0 l0_0.length c0_0], .int .i64 1048576] rfl z9_0_ ?_; (with_reducible refine (laws_szPuzzle.calls _ _ l0_0 1048576 t241 _ ?side1 ?side2 A2.out).mono ?_); (case side1 => repeat (first | exact (Kd.C_below HR0_0.out HB.out) | (with_reducible refine Kd.C_alloc ?_ _) | (with_reducible refine Kd.C_drewN ?_ _) | (with_reducible refine Kd.C_drew ?_))); (case side2 => exact HC0_0.out); rintro e w6 ⟨rfl, hb⟩; refine ⟨_, rfl, ?_⟩; have n0_ := Aside0.mk (blk_below (g := gb240) (o := .cells #[.slice A0_0 l0_0.length c0_0] 31 (0, 0)) z9_6_ hb); have n1_ := Aside0.mk (below_step z9_4_ hb); clear BK240; clear HB; have BK240 := n0_; have HB := n1_; clear n0_ n1_; (try clear hb); (try clear hb2); (try clear hk); (try clear hi)))
   go_ret
   exact ⟨by first | rfl | (simp [errW_none, errW_some] <;> rfl) | (simp [*, errW_none, errW_some] <;> rfl), by repeat (first | (with_reducible first | exact HB.out | apply below_alloc | apply pw_below_drewN | apply below_drew1 | refine below_set ?_ GE240.out) | exact HB.out)⟩
 rw [if_neg c3] at H
 have c3b0 : decide (t241 < 0) = false := decide_eq_false c3
 clear c3
 replace H := Option.bind_eq_some_iff.mp H
 obtain ⟨t242, A70, H⟩ := H
 have A7 := Aside0.mk A70
 clear A70
 replace H := Option.bind_eq_some_iff.mp H
 obtain ⟨⟨t245, t248⟩, A80, H⟩ := H
 dsimp only at H
 have A8 := Aside0.mk A80
 clear A80
 replace H := Option.bind_eq_some_iff.mp H
 obtain ⟨t249, A90, H⟩ := H
 have A9 := Aside0.mk A90
 clear A90
 replace H := Option.bind_eq_some_iff.mp H
 obtain ⟨⟨t253, t256⟩, A100, H⟩ := H
 dsimp only at H
 have A10 := Aside0.mk A100
 clear A100
 replace H := Option.bind_eq_some_iff.mp H
 obtain ⟨t258, A110, H⟩ := H
 have A11 := Aside0.mk A110
 clear A110
 by_cases c12 : t258 = true
 · subst c12
   rw [if_pos rfl] at H
   by_cases c13 : (t256 != t248) = true
   · exact dead_ (if_pos c13) H hr_
   rw [if_neg c13] at H
   have c13b0 : (t256 != t248) = false := by simpa using c13
   (try (have c13b1 : decide (t256 = t248) = true := by simpa using c13))
   (try (have c13b2 : (t256 == t248) = true := by simpa using c13))
   clear c13
   replace H := Option.bind_eq_some_iff.mp H
   obtain ⟨t259, A140, H⟩ := H
   have A14 := Aside0.mk A140
   clear A140
   replace H := Option.bind_eq_some_iff.mp H
   obtain ⟨t262, A150, H⟩ := H
   have A15 := Aside0.mk A150
   clear A150
   by_cases c16 : t262 = true
   · subst c16
     rw [if_pos rfl] at H
     replace H := Option.bind_eq_some_iff.mp H
     obtain ⟨⟨t263, t264⟩, A170, H⟩ := H
     dsimp only at H
     have A17 := Aside0.mk A170
     clear A170
     by_cases c18 : t263 < 0
     · exact dead_ (if_pos c18) H hr_
     rw [if_neg c18] at H
     have c18b0 : decide (t263 < 0) = false := decide_eq_false c18
     clear c18
     replace H := Option.bind_eq_some_iff.mp H
     obtain ⟨t266, A190, H⟩ := H
     have A19 := Aside0.mk A190
     clear A190
     by_cases c20 : t266 = true
     · subst c20
       rw [if_pos rfl] at H
       replace H := Option.bind_eq_some_iff.mp H
       obtain ⟨⟨t267, t268⟩, A210, H⟩ := H
       dsimp only at H
       have A21 := Aside0.mk A210
       clear A210
       replace H := Option.bind_eq_some_iff.mp H
       obtain ⟨t269, A220, H⟩ := H
       have A22 := Aside0.mk A220
       clear A220
       by_cases c23 : t269 < 0
       · exact dead_ (if_pos c23) H hr_
       rw [if_neg c23] at H
       have c23b0 : decide (t269 < 0) = false := decide_eq_false c23
       clear c23
       by_cases c24 : t269 = t267
       rotate_left
       · exact dead_ (if_neg c24) H hr_
       rw [if_pos c24] at H
       have c24b0 : (t269 == t267) = true := beq_iff_eq.mpr c24
       have c24b1 : (t269 != t267) = false := bne_eq_false_iff_eq.mpr c24
       clear c24
       replace H := Option.bind_eq_some_iff.mp H
       obtain ⟨t270, A250, H⟩ := H
       have A25 := Aside0.mk A250
       clear A250
       replace H := Option.bind_eq_some_iff.mp H
       obtain ⟨⟨t273, t276⟩, A260, H⟩ := H
       dsimp only at H
       have A26 := Aside0.mk A260
       clear A260
       replace H := Option.bind_eq_some_iff.mp H
       obtain ⟨t278, A270, H⟩ := H
       have A27 := Aside0.mk A270
       clear A270
       by_cases c28 : t278 = true
       · subst c28
         rw [if_pos rfl] at H
         by_cases c29 : (t276 != t248) = true
         · exact dead_ (if_pos c29) H hr_
         rw [if_neg c29] at H
         have c29b0 : (t276 != t248) = false := by simpa using c29
         (try (have c29b1 : decide (t276 = t248) = true := by simpa using c29))
         (try (have c29b2 : (t276 == t248) = true := by simpa using c29))
         clear c29
         replace H := Option.bind_eq_some_iff.mp H
         obtain ⟨t279, A300, H⟩ := H
         have A30 := Aside0.mk A300
         clear A300
         by_cases c31 : t279 < 0
         · exact dead_ (if_pos c31) H hr_
         rw [if_neg c31] at H
         have c31b0 : decide (t279 < 0) = false := decide_eq_false c31
         clear c31
         by_cases c32 : t279 = t267
         rotate_left
         · exact dead_ (if_neg c32) H hr_
         rw [if_pos c32] at H
         have c32b0 : (t279 == t267) = true := beq_iff_eq.mpr c32
         have c32b1 : (t279 != t267) = false := bne_eq_false_iff_eq.mpr c32
         clear c32
         obtain rfl := Option.some.inj H
         go_enter Tryd.func12, Tryd.ntmps12
         try go_wp2_with (first | ((with_reducible refine gate_dst (N := 1) rfl ?_); refine box_event ?hg (N := 1) ?hd (cs := #[.slice A0_0 l0_0.length c0_0]) (t := 31) ?hr ?_; (case hd => rfl); (case hg => rfl); (case hr => first | (go_simp; done) | (go_simp; rfl)); intro gb240 hg w33 hbox hb; have n0_ := Aside0.mk (below_step z9_7_ hb); have n1_ := Aside0.mk (hbox); have n2_ := Aside0.mk ((by rw [hg]; exact (below_size z9_7_) : w.heap.size ≤ gb240)); have n3_ := Aside0.mk ((by rw [hg]; exact (below_size z9_7_) : w.heap.size ≤ gb240)); clear HB; have HB := n0_; have BK240 := n1_; have GW240 := n2_; have GE240 := n3_; clear n0_ n1_ n2_ n3_; clear hb hbox hg; have hcz34_0 : w33.cell? ⟨gb240, 0, none⟩ = some (.slice A0_0 l0_0.length c0_0) := (blk_cell BK240.out 0).trans rfl; have hfz34_0 := blk_frozen BK240.out 0) | ((with_reducible refine gate_callee (f := 18) rfl ?_); refine goesL_ (some 16) rfl rfl Tryd.func18 (by kernel_rfl) rfl #[.agg #[.slice A0_0 l0_0.length c0_0], .int .i64 1048576] rfl z9_0_ ?_; (with_reducible refine (laws_szPuzzle.calls _ _ l0_0 1048576 t241 _ ?side1 ?side2 A2.out).mono ?_); (case side1 => repeat (first | exact (Kd.C_below HR0_0.out HB.out) | (with_reducible refine Kd.C_alloc ?_ _) | (with_reducible refine Kd.C_drewN ?_ _) | (with_reducible refine Kd.C_drew ?_))); (case side2 => exact HC0_0.out); rintro e w35 ⟨rfl, hb⟩; refine ⟨_, rfl, ?_⟩; have n0_ := Aside0.mk (blk_below (g := gb240) (o := .cells #[.slice A0_0 l0_0.length c0_0] 31 (0, 0)) z9_6_ hb); have n1_ := Aside0.mk (below_step z9_4_ hb); clear BK240; clear HB; have BK240 := n0_; have HB := n1_; clear n0_ n1_; (try clear hb); (try clear hb2); (try clear hk); (try clear hi); have hcz36_0 : w35.cell? ⟨gb240, 0, none⟩ = some (.slice A0_0 l0_0.length c0_0) := (blk_cell BK240.out 0).trans rfl; have hfz36_0 := blk_frozen BK240.out 0) | ((with_reducible refine gate_callee (f := 20) rfl ?_); refine goesL_ (some 21) rfl rfl Tryd.func20 (by kernel_rfl) rfl #[.agg #[.slice A0_0 l0_0.length c0_0]] rfl z9_0_ ?_; (with_reducible refine (laws_toPuzzle.calls k _ _ l0_0 t242 _ ?side1 ?side2 A7.out).mono ?_); (case side1 => repeat (first | exact (Kd.C_below HR0_0.out HB.out) | (with_reducible refine Kd.C_alloc ?_ _) | (with_reducible refine Kd.C_drewN ?_ _) | (with_reducible refine Kd.C_drew ?_))); (case side2 => exact HC0_0.out); rintro e w37 ⟨v243, rfl, ho0, hb⟩; refine ⟨_, rfl, ?_⟩; have n0_ := Aside0.mk (Kd.R_lower ho0 (below_size z9_4_)); have n1_ := Aside0.mk (blk_below (g := gb240) (o := .cells #[.slice A0_0 l0_0.length c0_0] 31 (0, 0)) z9_6_ hb); have n2_ := Aside0.mk (below_step z9_4_ hb); clear BK240; clear HB; have HO244 := n0_; have BK240 := n1_; have HB := n2_; clear n0_ n1_ n2_; (try clear hb); (try clear hb2); (try clear hk); (try clear hi); (try clear ho0); obtain ⟨Ao38, co38, eo38⟩ := Kd.R_slice HO244.out; subst eo38) | ((with_reducible refine gate_callee (f := 45) rfl ?_); refine goesL_ (some 22) rfl rfl Tryd.func45 (by kernel_rfl) rfl #[.agg #[.slice Ao38 t242.length co38]] rfl z9_0_ ?_; (with_reducible refine (spec_NeedlessClues.calls k _ _ t242 t245 t248 _ ?side1 ?side2 A8.out).mono ?_); (case side1 => repeat (first | exact (Kd.R_reads' HO244.out).2.2 | (with_reducible refine Kd.C_alloc ?_ _) | (with_reducible refine Kd.C_drewN ?_ _) | (with_reducible refine Kd.C_drew ?_))); (case side2 => exact (Kd.R_reads' HO244.out).2.1); rintro e w39 ⟨v246, rfl, ho0, hb⟩; refine ⟨_, rfl, ?_⟩; have n0_ := Aside0.mk (Kd.R_below z9_9_ hb); have n1_ := Aside0.mk (Kd.R_lower ho0 (below_size z9_4_)); have n2_ := Aside0.mk (blk_below (g := gb240) (o := .cells #[.slice A0_0 l0_0.length c0_0] 31 (0, 0)) z9_6_ hb); have n3_ := Aside0.mk (below_step z9_4_ hb); clear HO244; clear BK240; clear HB; have HO244 := n0_; have HO247 := n1_; have BK240 := n2_; have HB := n3_; clear n0_ n1_ n2_ n3_; (try clear hb); (try clear hb2); (try clear hk); (try clear hi); (try clear ho0); have hcz40_0 : w39.cell? ⟨gb240, 0, none⟩ = some (.slice A0_0 l0_0.length c0_0) := (blk_cell BK240.out 0).trans rfl; have hfz40_0 := blk_frozen BK240.out 0) | ((with_reducible refine gate_callee (f := 20) rfl ?_); refine goesL_ (some 26) rfl rfl Tryd.func20 (by kernel_rfl) rfl #[.agg #[.slice A0_0 l0_0.length c0_0]] rfl z9_0_ ?_; (with_reducible refine (laws_toPuzzle.calls k _ _ l0_0 t249 _ ?side1 ?side2 A9.out).mono ?_); (case side1 => repeat (first | exact (Kd.C_below HR0_0.out HB.out) | (with_reducible refine Kd.C_alloc ?_ _) | (with_reducible refine Kd.C_drewN ?_ _) | (with_reducible refine Kd.C_drew ?_))); (case side2 => exact HC0_0.out); rintro e w41 ⟨v250, rfl, ho0, hb⟩; refine ⟨_, rfl, ?_⟩; have n0_ := Aside0.mk (Kd.R_elder' z9_9_ (Kd.R_base ho0) hb); have n1_ := Aside0.mk (Kd.R_below z9_11_ hb); have n2_ := Aside0.mk (Kd.R_lower (Kd.R_new' ho0 (Kd.R_lt z9_9_)) (below_size z9_4_)); have n3_ := Aside0.mk (blk_below (g := gb240) (o := .cells #[.slice A0_0 l0_0.length c0_0] 31 (0, 0)) z9_6_ hb); have n4_ := Aside0.mk (below_step z9_4_ hb); clear HO244; clear HO247; clear BK240; clear HB; have HO244 := n0_; have HO247 := n1_; have HO251 := n2_; have BK240 := n3_; have HB := n4_; clear n0_ n1_ n2_ n3_ n4_; (try clear hb); (try clear hb2); (try clear hk); (try clear hi); (try clear ho0)) | ((with_reducible refine gate_dst (N := 6) rfl ?_); refine box_event ?hg (N := 6) ?hd (cs := #[.slice none 0 0]) (t := 37) ?hr ?_; (case hd => rfl); (case hg => rfl); (case hr => first | (go_simp; done) | (go_simp; rfl)); intro gb252 hg w42 hbox hb; have n0_ := Aside0.mk (Kd.R_below z9_9_ hb); have n1_ := Aside0.mk (Kd.R_below z9_11_ hb); have n2_ := Aside0.mk (Kd.R_below z9_12_ hb); have n3_ := Aside0.mk (blk_below (g := gb240) (o := .cells #[.slice A0_0 l0_0.length c0_0] 31 (0, 0)) z9_6_ hb); have n4_ := Aside0.mk (below_step z9_4_ hb); have n5_ := Aside0.mk (hbox); have n6_ := Aside0.mk ((by rw [hg]; exact (below_size z9_4_) : w.heap.size ≤ gb252)); have n7_ := Aside0.mk ((by rw [hg]; exact (below_size z9_4_) : w.heap.size ≤ gb252)); have n8_ := Aside0.mk ((by rw [hg]; exact Nat.ne_of_lt (blk_lt (g := gb240) (o := .cells #[.slice A0_0 l0_0.length c0_0] 31 (0, 0)) z9_6_) : gb240 ≠ gb252)); have n9_ := Aside0.mk ((by rw [hg]; exact Nat.ne_of_gt (blk_lt (g := gb240) (o := .cells #[.slice A0_0 l0_0.length c0_0] 31 (0, 0)) z9_6_) : gb252 ≠ gb240)); clear HO244; clear HO247; clear HO251; clear BK240; clear HB; have HO244 := n0_; have HO247 := n1_; have HO251 := n2_; have BK240 := n3_; have HB := n4_; have BK252 := n5_; have GW252 := n6_; have GE252 := n7_; have NB240_252 := n8_; have NB252_240 := n9_; clear n0_ n1_ n2_ n3_ n4_ n5_ n6_ n7_ n8_ n9_; clear hb hbox hg; obtain ⟨Ao43, co43, eo43⟩ := Kd.R_slice HO251.out; subst eo43; have hnb44 := NB252_240.out; have hnc44 := NB240_252.out; have hcz45_0 : w42.cell? ⟨gb252, 0, none⟩ = some (.slice none 0 0) := (blk_cell BK252.out 0).trans rfl; have hfz45_0 := blk_frozen BK252.out 0) | ((with_reducible refine gate_callee (f := 46) rfl ?_); refine goesL_ (some 29) rfl rfl Tryd.func46 (by kernel_rfl) rfl #[.agg #[.slice Ao43 t249.length co43]] rfl z9_0_ ?_; (with_reducible refine (impl_NeedlessClues.calls k _ _ t249 t253 t256 _ ?side1 ?side2 A10.out).mono ?_); (case side1 => refine (Kd.R_reads' (e := 26) (base := w.heap.size) (ok := fun k_ => (True ∧ some k_ ≠ (.slice Ao38 t242.length co38 : Value).ownBlock)) (n := t249.length) (c := co43) ?_).2.2; exact (by (with_reducible repeat (first | apply Kd.R_alloc | apply Kd.R_drewN | apply Kd.R_drew)); exact (Kd.R_mono (Kd.R_far (p := ⟨gb252, 0, none⟩) (Kd.R_types HO251.out BK252.out (by decide)) (fun _ hk => hk.2) (.slice Ao43 t249.length co43)) (fun _ h_ => h_.1)))); (case side2 => exact (Kd.R_reads' HO251.out).2.1); rintro e w46 ⟨v254, rfl, ho0, hb⟩; refine ⟨_, rfl, ?_⟩; have n0_ := Aside0.mk (Kd.R_below (by (with_reducible repeat (first | apply Kd.R_alloc | apply Kd.R_drewN | apply Kd.R_drew)); exact (Kd.R_mono (Kd.R_far (p := ⟨gb252, 0, none⟩) (Kd.R_types HO244.out BK252.out (by decide)) (fun _ hk => hk.2) (.slice Ao43 t249.length co43)) (fun _ h_ => h_.1))) hb); have n1_ := Aside0.mk (Kd.R_elder' (by (with_reducible repeat (first | apply Kd.R_alloc | apply Kd.R_drewN | apply Kd.R_drew)); exact (Kd.R_mono (Kd.R_far (p := ⟨gb252, 0, none⟩) (Kd.R_types HO247.out BK252.out (by decide)) (fun _ hk => hk.2) (.slice Ao43 t249.length co43)) (fun _ h_ => h_.1))) (Kd.R_base ho0) hb); have n2_ := Aside0.mk (Kd.R_below (by (with_reducible repeat (first | apply Kd.R_alloc | apply Kd.R_drewN | apply Kd.R_drew)); exact (Kd.R_mono (Kd.R_far (p := ⟨gb252, 0, none⟩) (Kd.R_types HO251.out BK252.out (by decide)) (fun _ hk => hk.2) (.slice Ao43 t249.length co43)) (fun _ h_ => h_.1))) hb); have n3_ := Aside0.mk (Kd.R_lower (Kd.R_new' ho0 (Kd.R_lt (by (with_reducible repeat (first | apply Kd.R_alloc | apply Kd.R_drewN | apply Kd.R_drew)); exact (Kd.R_mono (Kd.R_far (p := ⟨gb252, 0, none⟩) (Kd.R_types HO247.out BK252.out (by decide)) (fun _ hk => hk.2) (.slice Ao43 t249.length co43)) (fun _ h_ => h_.1))))) (below_size z9_3_)); have n4_ := Aside0.mk (blk_below (g := gb240) (o := .cells #[.slice A0_0 l0_0.length c0_0] 31 (0, 0)) (by (with_reducible repeat (first | refine blk_drewN ?_ _ | refine blk_drew ?_ | refine blk_alloc ?_ _)); refine blk_far ?_ NB240_252.out _; (with_reducible repeat (first | refine blk_drewN ?_ _ | refine blk_drew ?_ | refine blk_alloc ?_ _)); exact BK240.out) hb); have n5_ := Aside0.mk (blk_below (g := gb252) (o := .cells #[.slice Ao43 t249.length co43] 37 (0, 0)) (by (with_reducible repeat (first | refine blk_drewN ?_ _ | refine blk_drew ?_ | refine blk_alloc ?_ _)); refine blk_put (cs := #[.slice none 0 0]) ?_ 0 _ rfl; (with_reducible repeat (first | refine blk_drewN ?_ _ | refine blk_drew ?_ | refine blk_alloc ?_ _)); exact BK252.out) hb); have n6_ := Aside0.mk (below_step z9_3_ hb); clear HO244; clear HO247; clear HO251; clear BK240; clear BK252; clear HB; have HO244 := n0_; have HO247 := n1_; have HO251 := n2_; have HO255 := n3_; have BK240 := n4_; have BK252 := n5_; have HB := n6_; clear n0_ n1_ n2_ n3_ n4_ n5_ n6_; (try clear hb); (try clear hb2); (try clear hk); (try clear hi); (try clear ho0); obtain ⟨Ao47, co47, eo47⟩ := Kd.R_slice HO255.out; subst eo47; obtain ⟨Ao48, co48, eo48⟩ := Kd.R_slice HO247.out; subst eo48) | ((with_reducible refine gate_callee (f := 37) rfl ?_); refine goesL_ (some 34) rfl rfl Tryd.func37 (by kernel_rfl) rfl #[.slice Ao47 t253.length co47, .slice Ao48 t245.length co48] rfl z9_0_ ?_; (with_reducible refine (laws_eqIntS.calls k _ _ t253 _ _ t245 true _ ?side1 ?side2 ?side3 ?side4 A11.out).mono ?_); (case side1 => repeat (first | exact (Kd.R_reads' HO255.out).2.2 | (with_reducible refine Kd.C_alloc ?_ _) | (with_reducible refine Kd.C_drewN ?_ _) | (with_reducible refine Kd.C_drew ?_))); (case side2 => exact (Kd.R_reads' HO255.out).2.1); (case side3 => repeat (first | exact (Kd.R_reads' HO247.out).2.2 | (with_reducible refine Kd.C_alloc ?_ _) | (with_reducible refine Kd.C_drewN ?_ _) | (with_reducible refine Kd.C_drew ?_))); (case side4 => exact (Kd.R_reads' HO247.out).2.1); rintro e w' ⟨rfl, ⟨nd, rfl⟩⟩; refine ⟨_, rfl, ?_⟩))
         (try (rw [drewN_self w46]; generalize hq_ : World.drewN w46 _ = w46; have n0_ : Aside0 (Kd.R k26 26 w46 w.heap.size (fun k_ => some k_ ≠ (.slice Ao43 t249.length co43 : Value).ownBlock) (.slice Ao38 t242.length co38) t242) := ⟨by rw [← hq_]; exact (by (with_reducible repeat (first | apply Kd.R_alloc | apply Kd.R_drewN | apply Kd.R_drew)); exact Kd.R_mono HO244.out (fun _ hk => hk.2))⟩; have n1_ : Aside0 (Kd.R (Kd.int .i64) 3 w46 w.heap.size (fun k_ => some k_ ≠ (.slice Ao47 t253.length co47 : Value).ownBlock) (.slice Ao48 t245.length co48) t245) := ⟨by rw [← hq_]; exact (by (with_reducible repeat (first | apply Kd.R_alloc | apply Kd.R_drewN | apply Kd.R_drew)); exact Kd.R_mono HO247.out (fun _ hk => hk.2))⟩; have n2_ : Aside0 (Kd.R k26 26 w46 w.heap.size (fun k_ => some k_ ≠ (.slice Ao38 t242.length co38 : Value).ownBlock) (.slice Ao43 t249.length co43) t249) := ⟨by rw [← hq_]; exact (by (with_reducible repeat (first | apply Kd.R_alloc | apply Kd.R_drewN | apply Kd.R_drew)); exact Kd.R_mono HO251.out (fun _ hk => hk.2))⟩; have n3_ : Aside0 (Kd.R (Kd.int .i64) 3 w46 w.heap.size (fun k_ => some k_ ≠ (.slice Ao48 t245.length co48 : Value).ownBlock) (.slice Ao47 t253.length co47) t253) := ⟨by rw [← hq_]; exact (by (with_reducible repeat (first | apply Kd.R_alloc | apply Kd.R_drewN | apply Kd.R_drew)); exact Kd.R_mono HO255.out (fun _ hk => hk.2))⟩; have n4_ : Aside0 (w46.heap[gb240]? = some (.cells #[.slice A0_0 l0_0.length c0_0] 31 (0, 0))) := ⟨by rw [← hq_]; exact z9_6_⟩; have n5_ : Aside0 (w46.heap[gb252]? = some (.cells #[.slice Ao43 t249.length co43] 37 (0, 0))) := ⟨by rw [← hq_]; exact z9_10_⟩; have n6_ : Aside0 (Below w.heap.size w w46) := ⟨by rw [← hq_]; exact z9_3_⟩; clear HO244 HO247 HO251 HO255 BK240 BK252 HB hq_; have HO244 := n0_; have HO247 := n1_; have HO251 := n2_; have HO255 := n3_; have BK240 := n4_; have BK252 := n5_; have HB := n6_; clear n0_ n1_ n2_ n3_ n4_ n5_ n6_))
         have n0_ := Aside0.mk (Kd.R_drew HO244.out)
         have n1_ := Aside0.mk (Kd.R_drew HO247.out)
         have n2_ := Aside0.mk (Kd.R_drew HO251.out)
         have n3_ := Aside0.mk (Kd.R_drew HO255.out)
         have n4_ := Aside0.mk (blk_drew BK240.out)
         have n5_ := Aside0.mk (blk_drew BK252.out)
         have n6_ := Aside0.mk (below_drew1 HB.out)
         clear HO244
         clear HO247
         clear HO251
         clear HO255
         clear BK240
         clear BK252
         clear HB
         have HO244 := n0_
         have HO247 := n1_
         have HO251 := n2_
         have HO255 := n3_
         have BK240 := n4_
         have BK252 := n5_
         have HB := n6_
         clear n0_ n1_ n2_ n3_ n4_ n5_ n6_
         refine start_ (n := 5) (S := fun w' => w'.cell? ⟨gb252, 0, none⟩ = some (.slice Ao43 t249.length co43) ∧ w'.cell? ⟨gb240, 0, none⟩ = some (.slice A0_0 l0_0.length c0_0)) (ds := []) #[false, false, false, false, false] (by kernel_rfl) rfl rfl ⟨(blk_cell BK252.out 0).trans rfl, (blk_cell BK240.out 0).trans rfl⟩ (fun hHeld => ?_)
         generalize w46.drew = w49 at HO244 HO247 HO251 HO255 BK240 BK252 HB hHeld ⊢
         refine take_ (i := 0) (N := some 41) (v := ?_) (a' := ?_) #[true, false, false, false, false] rfl rfl (by kernel_rfl) (fun _ _ _ h => h) (Or.inl ⟨by rfl, ?_⟩) hHeld ?_ ?_
         rotate_left
         · rintro w' ⟨s0, s1⟩
           go_simp
           with_reducible rfl
         rotate_left
         · simp only [Act.put, List.setIfInBounds_toArray, List.set_cons_zero, List.set_cons_succ, i64_w, i32_w]
           rfl
         refine take_ (i := 1) (N := some 42) (v := ?_) (a' := ?_) #[true, true, false, false, false] rfl rfl (by kernel_rfl) (fun _ _ _ h => h) (Or.inl ⟨by rfl, ?_⟩) hHeld ?_ ?_
         rotate_left
         · rintro w' ⟨s0, s1⟩
           go_simp
           with_reducible rfl
         rotate_left
         · simp only [Act.put, List.setIfInBounds_toArray, List.set_cons_zero, List.set_cons_succ, i64_w, i32_w]
           rfl
         refine one_ (i := 2) (N := some 43) #[true, true, true, false, false] rfl rfl (by kernel_rfl) (by decide) (fun K hK => ?_)
         refine goes_ Tryd.func20 (by kernel_rfl) rfl #[.agg #[.slice A0_0 l0_0.length c0_0]] (by rfl) rfl rfl z9_0_ ?_
         with_reducible refine (laws_toPuzzle.calls k _ _ l0_0 t259 _ ?side1 ?side2 A14.out).mono ?_
         (case side1 => repeat (first | exact (Kd.C_below HR0_0.out HB.out) | (with_reducible refine Kd.C_alloc ?_ _) | (with_reducible refine Kd.C_drewN ?_ _) | (with_reducible refine Kd.C_drew ?_)))
         (case side2 => exact HC0_0.out)
         rintro e w50 ⟨v260, rfl, ho0, hb⟩
         refine ⟨_, rfl, ?_⟩
         have n0_ := Aside0.mk (Kd.R_elder' z9_9_ (Kd.R_base ho0) hb)
         have n1_ := Aside0.mk (Kd.R_below z9_11_ hb)
         have n2_ := Aside0.mk (Kd.R_elder' z9_12_ (Kd.R_base ho0) hb)
         have n3_ := Aside0.mk (Kd.R_below z9_14_ hb)
         have n4_ := Aside0.mk (Kd.R_lower (Kd.R_new' (Kd.R_new' ho0 (Kd.R_lt z9_9_)) (Kd.R_lt z9_12_)) (below_size z9_3_))
         have n5_ := Aside0.mk (blk_below (g := gb240) (o := .cells #[.slice A0_0 l0_0.length c0_0] 31 (0, 0)) z9_6_ hb)
         have n6_ := Aside0.mk (blk_below (g := gb252) (o := .cells #[.slice Ao43 t249.length co43] 37 (0, 0)) z9_10_ hb)
         have n7_ := Aside0.mk (below_step z9_3_ hb)
         clear HO244
         clear HO247
         clear HO251
         clear HO255
         clear BK240
         clear BK252
         clear HB
         have HO244 := n0_
         have HO247 := n1_
         have HO251 := n2_
         have HO255 := n3_
         have HO261 := n4_
         have BK240 := n5_
         have BK252 := n6_
         have HB := n7_
         clear n0_ n1_ n2_ n3_ n4_ n5_ n6_ n7_
         (try clear hb)
         (try clear hb2)
         (try clear hk)
         (try clear hi)
         (try clear ho0)
         obtain ⟨Ao51, co51, eo51⟩ := Kd.R_slice HO261.out
         (first | subst eo51 | (injection eo51 with f1_ f2_ f3_; have f4_ := f1_.symm; have f5_ := f3_.symm; clear f1_ f2_ f3_; subst f4_; subst f5_))
         refine hK.out _ _ ⟨(blk_cell BK252.out 0).trans rfl, (blk_cell BK240.out 0).trans rfl⟩ (fun hHeld => ?_)
         clear hK K
         refine norm_ (a' := ?_) ?_ ?_
         rotate_left
         · show Act.put _ (some 43) _ = _
           simp only [Act.put, List.setIfInBounds_toArray, List.set_cons_zero, List.set_cons_succ, i64_w, i32_w]
           rfl
         refine one_ (i := 3) (N := some 44) #[true, true, true, true, false] rfl rfl (by kernel_rfl) (by decide) (fun K hK => ?_)
         refine goes_ Tryd.func22 (by kernel_rfl) rfl #[.agg #[.slice Ao43 t249.length co43], .agg #[.slice Ao51 t259.length co51]] (by rfl) rfl rfl z9_0_ ?_
         with_reducible refine (laws_eqPuzzle.calls k _ _ t249 _ _ t259 true _ ?side1 ?side2 ?side3 ?side4 A15.out).mono ?_
         (case side1 => repeat (first | exact (Kd.R_reads' HO251.out).2.2 | (with_reducible refine Kd.C_alloc ?_ _) | (with_reducible refine Kd.C_drewN ?_ _) | (with_reducible refine Kd.C_drew ?_)))
         (case side2 => exact (Kd.R_reads' HO251.out).2.1)
         (case side3 => repeat (first | exact (Kd.R_reads' HO261.out).2.2 | (with_reducible refine Kd.C_alloc ?_ _) | (with_reducible refine Kd.C_drewN ?_ _) | (with_reducible refine Kd.C_drew ?_)))
         (case side4 => exact (Kd.R_reads' HO261.out).2.1)
         rintro e w52 ⟨rfl, hb⟩
         refine ⟨_, rfl, ?_⟩
         have n0_ := Aside0.mk (Kd.R_below z9_9_ hb)
         have n1_ := Aside0.mk (Kd.R_below z9_11_ hb)
         have n2_ := Aside0.mk (Kd.R_below z9_12_ hb)
         have n3_ := Aside0.mk (Kd.R_below z9_14_ hb)
         have n4_ := Aside0.mk (Kd.R_below z9_16_ hb)
         have n5_ := Aside0.mk (blk_below (g := gb240) (o := .cells #[.slice A0_0 l0_0.length c0_0] 31 (0, 0)) z9_6_ hb)
         have n6_ := Aside0.mk (blk_below (g := gb252) (o := .cells #[.slice Ao43 t249.length co43] 37 (0, 0)) z9_10_ hb)
         have n7_ := Aside0.mk (below_step z9_3_ hb)
         clear HO244
         clear HO247
         clear HO251
         clear HO255
         clear HO261
         clear BK240
         clear BK252
         clear HB
         have HO244 := n0_
         have HO247 := n1_
         have HO251 := n2_
         have HO255 := n3_
         have HO261 := n4_
         have BK240 := n5_
         have BK252 := n6_
         have HB := n7_
         clear n0_ n1_ n2_ n3_ n4_ n5_ n6_ n7_
         (try clear hb)
         (try clear hb2)
         (try clear hk)
         (try clear hi)
         refine hK.out _ _ ⟨(blk_cell BK252.out 0).trans rfl, (blk_cell BK240.out 0).trans rfl⟩ (fun hHeld => ?_)
         clear hK K
         refine norm_ (a' := ?_) ?_ ?_
         rotate_left
         · show Act.put _ (some 44) _ = _
           simp only [Act.put, List.setIfInBounds_toArray, List.set_cons_zero, List.set_cons_succ, i64_w, i32_w]
           rfl
         refine pure_ (i := 4) (N := some 45) (v := ?_) (a' := ?_) #[true, true, true, true, true] rfl rfl (by kernel_rfl) (fun _ _ _ h => h) (Or.inl ⟨by rfl, ?_⟩) ?_ ?_
         rotate_left
         · intro w'
           go_simp
           with_reducible rfl
         rotate_left
         · simp only [Act.put, List.setIfInBounds_toArray, List.set_cons_zero, List.set_cons_succ, i64_w, i32_w]
           rfl
         refine done_ (by kernel_rfl) ?_
         have hcz53_0 : w52.cell? ⟨gb252, 0, none⟩ = some (.slice Ao43 t249.length co43) := (blk_cell BK252.out 0).trans rfl
         have hfz53_0 := blk_frozen BK252.out 0
         try go_wp2_with (first | ((with_reducible refine gate_callee (f := 27) rfl ?_); refine goesL_ (some 48) rfl rfl Tryd.func27 (by kernel_rfl) rfl #[.agg #[.slice Ao43 t249.length co43], .int .i64 1] rfl z9_0_ ?_; (with_reducible refine (laws_markPuzzle.calls k (fun k_ => some k_ = (.slice Ao43 t249.length co43 : Value).ownBlock) (.slice Ao43 t249.length co43) t249 1 t263 t264 w _ ?side1 ?side2 A17.out).mono ?_); (case side1 => repeat (first | (with_reducible first | exact HB.out | apply below_alloc | apply pw_below_drewN | apply below_drew1 | refine below_set ?_ GE240.out | refine below_set ?_ GE252.out) | exact HB.out)); (case side2 => exact Kd.R_tight rfl HO251.out); rintro e w54 ⟨rfl, hy0, hb, hkp⟩; refine ⟨_, rfl, ?_⟩; have n0_ := Aside0.mk (blk_kept z9_6_ hkp (fun hs_ => (fun e_ => (Kd.R_ne HO251.out BK240.out (by decide)) e_) hs_)); have n1_ := Aside0.mk (Kd.R_mono (ok' := fun k_ => some k_ ≠ (.slice Ao43 t249.length co43 : Value).ownBlock ∧ some k_ ≠ (.slice Ao51 t259.length co51 : Value).ownBlock) (Kd.R_keptB (HO244.out) hkp (fun k_ hk_ hs_ => z9_5_)) (fun k_ hk_ => ⟨z9_2_, z9_2_⟩)); have n2_ := Aside0.mk (Kd.R_mono (ok' := fun k_ => some k_ ≠ (.slice Ao47 t253.length co47 : Value).ownBlock) (Kd.R_keptB ((Kd.R_apart' HO247.out (Kd.R_typed HO251.out) (by decide))) hkp (fun k_ hk_ hs_ => z9_5_)) (fun k_ hk_ => z9_2_)); have n3_ := Aside0.mk (Kd.R_reok rfl hy0 (fun k_ e_ => HO251.out.1 k_ e_)); have n4_ := Aside0.mk (blk_kept z9_10_ hkp (fun hs_ => (fun e_ => (Kd.R_ne HO251.out BK252.out (by decide)) e_) hs_)); have n5_ := Aside0.mk (Kd.R_mono (ok' := fun k_ => some k_ ≠ (.slice Ao48 t245.length co48 : Value).ownBlock) (Kd.R_keptB ((Kd.R_apart' HO255.out (Kd.R_typed HO251.out) (by decide))) hkp (fun k_ hk_ hs_ => z9_5_)) (fun k_ hk_ => z9_2_)); have n6_ := Aside0.mk (Kd.R_mono (ok' := fun k_ => some k_ ≠ (.slice Ao38 t242.length co38 : Value).ownBlock ∧ some k_ ≠ (.slice Ao43 t249.length co43 : Value).ownBlock) (Kd.R_keptB (HO261.out) hkp (fun k_ hk_ hs_ => z9_5_)) (fun k_ hk_ => ⟨z9_2_, z9_2_⟩)); have n7_ := Aside0.mk (hb); clear BK240; clear HO244; clear HO247; clear HO251; clear BK252; clear HO255; clear HO261; clear HB; have BK240 := n0_; have HO244 := n1_; have HO247 := n2_; have HO251 := n3_; have BK252 := n4_; have HO255 := n5_; have HO261 := n6_; have HB := n7_; clear n0_ n1_ n2_ n3_ n4_ n5_ n6_ n7_; (try clear hb); (try clear hkp); (try clear hy0)) | (go_at_call 37; (with_reducible refine (laws_eqIntS.calls k _ _ t253 _ _ t245 true _ ?side1 ?side2 ?side3 ?side4 A19.out).mono ?_); (case side1 => repeat (first | exact (Kd.R_reads' HO255.out).2.2 | (with_reducible refine Kd.C_alloc ?_ _) | (with_reducible refine Kd.C_drewN ?_ _) | (with_reducible refine Kd.C_drew ?_))); (case side2 => exact (Kd.R_reads' HO255.out).2.1); (case side3 => repeat (first | exact (Kd.R_reads' HO247.out).2.2 | (with_reducible refine Kd.C_alloc ?_ _) | (with_reducible refine Kd.C_drewN ?_ _) | (with_reducible refine Kd.C_drew ?_))); (case side4 => exact (Kd.R_reads' HO247.out).2.1); rintro e w' ⟨rfl, ⟨nd, rfl⟩⟩) | ((with_reducible refine gate_callee (f := 38) rfl ?_); refine goesL_ (some 64) rfl rfl Tryd.func38 (by kernel_rfl) rfl #[.slice Ao47 t253.length co47, .int .i64 1] rfl z9_0_ ?_; (with_reducible refine (laws_markIntS.calls k (fun k_ => some k_ = (.slice Ao47 t253.length co47 : Value).ownBlock) (.slice Ao47 t253.length co47) t253 1 t267 t268 w _ ?side1 ?side2 A21.out).mono ?_); (case side1 => repeat (first | (with_reducible first | exact HB.out | apply below_alloc | apply pw_below_drewN | apply below_drew1 | refine below_set ?_ GE240.out | refine below_set ?_ GE252.out) | exact HB.out)); (case side2 => exact Kd.R_tight rfl HO255.out); rintro e w55 ⟨rfl, hy0, hb, hkp⟩; refine ⟨_, rfl, ?_⟩; have n0_ := Aside0.mk (blk_kept z9_6_ hkp (fun hs_ => (fun e_ => (Kd.R_ne HO255.out BK240.out (by decide)) e_) hs_)); have n1_ := Aside0.mk (Kd.R_mono (ok' := fun k_ => some k_ ≠ (.slice Ao43 t249.length co43 : Value).ownBlock ∧ some k_ ≠ (.slice Ao51 t259.length co51 : Value).ownBlock) (Kd.R_keptB ((Kd.R_apart' HO244.out (Kd.R_typed HO255.out) (by decide))) hkp (fun k_ hk_ hs_ => z9_5_)) (fun k_ hk_ => ⟨z9_2_, z9_2_⟩)); have n2_ := Aside0.mk (Kd.R_mono (ok' := fun k_ => some k_ ≠ (.slice Ao47 t253.length co47 : Value).ownBlock) (Kd.R_keptB (HO247.out) hkp (fun k_ hk_ hs_ => z9_5_)) (fun k_ hk_ => z9_2_)); have n3_ := Aside0.mk (Kd.R_mono (ok' := fun k_ => some k_ ≠ (.slice Ao38 t242.length co38 : Value).ownBlock ∧ some k_ ≠ (.slice Ao51 t259.length co51 : Value).ownBlock) (Kd.R_keptB ((Kd.R_apart' HO251.out (Kd.R_typed HO255.out) (by decide))) hkp (fun k_ hk_ hs_ => z9_5_)) (fun k_ hk_ => ⟨z9_2_, z9_2_⟩)); have n4_ := Aside0.mk (blk_kept z9_10_ hkp (fun hs_ => (fun e_ => (Kd.R_ne HO255.out BK252.out (by decide)) e_) hs_)); have n5_ := Aside0.mk (Kd.R_reok rfl hy0 (fun k_ e_ => HO255.out.1 k_ e_)); have n6_ := Aside0.mk (Kd.R_mono (ok' := fun k_ => some k_ ≠ (.slice Ao38 t242.length co38 : Value).ownBlock ∧ some k_ ≠ (.slice Ao43 t249.length co43 : Value).ownBlock) (Kd.R_keptB ((Kd.R_apart' HO261.out (Kd.R_typed HO255.out) (by decide))) hkp (fun k_ hk_ hs_ => z9_5_)) (fun k_ hk_ => ⟨z9_2_, z9_2_⟩)); have n7_ := Aside0.mk (hb); clear BK240; clear HO244; clear HO247; clear HO251; clear BK252; clear HO255; clear HO261; clear HB; have BK240 := n0_; have HO244 := n1_; have HO247 := n2_; have HO251 := n3_; have BK252 := n4_; have HO255 := n5_; have HO261 := n6_; have HB := n7_; clear n0_ n1_ n2_ n3_ n4_ n5_ n6_ n7_; (try clear hb); (try clear hkp); (try clear hy0)) | ((with_reducible refine gate_callee (f := 39) rfl ?_); refine goesL_ (some 67) rfl rfl Tryd.func39 (by kernel_rfl) rfl #[.slice Ao47 t268.length co47, .int .i64 1] rfl z9_15_ ?_; (with_reducible refine (laws_heldIntS.calls k _ _ t268 1 t269 _ ?side1 ?side2 A22.out).mono ?_); (case side1 => repeat (first | exact (Kd.R_reads' HO255.out).2.2 | (with_reducible refine Kd.C_alloc ?_ _) | (with_reducible refine Kd.C_drewN ?_ _) | (with_reducible refine Kd.C_drew ?_))); (case side2 => rw [show t268.length = t253.length from (Kd.R_reads' HO255.out).1.symm]; exact (Kd.R_reads' HO255.out).2.1); rintro e w' ⟨rfl, ⟨nd, rfl⟩⟩; refine ⟨_, rfl, ?_⟩; have hcz56_0 : w55.cell? ⟨gb240, 0, none⟩ = some (.slice A0_0 l0_0.length c0_0) := (blk_cell BK240.out 0).trans rfl; have hfz56_0 := blk_frozen BK240.out 0) | ((with_reducible refine gate_callee (f := 20) rfl ?_); refine goesL_ (some 75) rfl rfl Tryd.func20 (by kernel_rfl) rfl #[.agg #[.slice A0_0 l0_0.length c0_0]] rfl z9_0_ ?_; (with_reducible refine (laws_toPuzzle.calls k _ _ l0_0 t270 _ ?side1 ?side2 A25.out).mono ?_); (case side1 => repeat (first | exact (Kd.C_below HR0_0.out z9_3_) | (with_reducible refine Kd.C_alloc ?_ _) | (with_reducible refine Kd.C_drewN ?_ _) | (with_reducible refine Kd.C_drew ?_))); (case side2 => exact HC0_0.out); rintro e w57 ⟨v271, rfl, ho0, hb⟩; refine ⟨_, rfl, ?_⟩; have n0_ := Aside0.mk (Kd.R_elder' z9_9_ (Kd.R_base ho0) hb); have n1_ := Aside0.mk (Kd.R_below z9_11_ hb); have n2_ := Aside0.mk (Kd.R_elder' z9_12_ (Kd.R_base ho0) hb); have n3_ := Aside0.mk (Kd.R_below z9_14_ hb); have n4_ := Aside0.mk (Kd.R_elder' z9_16_ (Kd.R_base ho0) hb); have n5_ := Aside0.mk (Kd.R_lower (Kd.R_new' (Kd.R_new' (Kd.R_new' ho0 (Kd.R_lt z9_9_)) (Kd.R_lt z9_12_)) (Kd.R_lt z9_16_)) (below_size z9_3_)); have n6_ := Aside0.mk (blk_below (g := gb240) (o := .cells #[.slice A0_0 l0_0.length c0_0] 31 (0, 0)) z9_6_ hb); have n7_ := Aside0.mk (blk_below (g := gb252) (o := .cells #[.slice Ao43 t249.length co43] 37 (0, 0)) z9_10_ hb); have n8_ := Aside0.mk (below_step z9_3_ hb); clear HO244; clear HO247; clear HO251; clear HO255; clear HO261; clear BK240; clear BK252; clear HB; have HO244 := n0_; have HO247 := n1_; have HO251 := n2_; have HO255 := n3_; have HO261 := n4_; have HO272 := n5_; have BK240 := n6_; have BK252 := n7_; have HB := n8_; clear n0_ n1_ n2_ n3_ n4_ n5_ n6_ n7_ n8_; (try clear hb); (try clear hb2); (try clear hk); (try clear hi); (try clear ho0); obtain ⟨Ao58, co58, eo58⟩ := Kd.R_slice HO272.out; subst eo58) | ((with_reducible refine gate_callee (f := 46) rfl ?_); refine goesL_ (some 76) rfl rfl Tryd.func46 (by kernel_rfl) rfl #[.agg #[.slice Ao58 t270.length co58]] rfl z9_0_ ?_; (with_reducible refine (impl_NeedlessClues.calls k _ _ t270 t273 t276 _ ?side1 ?side2 A26.out).mono ?_); (case side1 => repeat (first | exact (Kd.R_reads' HO272.out).2.2 | (with_reducible refine Kd.C_alloc ?_ _) | (with_reducible refine Kd.C_drewN ?_ _) | (with_reducible refine Kd.C_drew ?_))); (case side2 => exact (Kd.R_reads' HO272.out).2.1); rintro e w59 ⟨v274, rfl, ho0, hb⟩; refine ⟨_, rfl, ?_⟩; have n0_ := Aside0.mk (Kd.R_below z9_9_ hb); have n1_ := Aside0.mk (Kd.R_elder' z9_11_ (Kd.R_base ho0) hb); have n2_ := Aside0.mk (Kd.R_below z9_12_ hb); have n3_ := Aside0.mk (Kd.R_elder' z9_14_ (Kd.R_base ho0) hb); have n4_ := Aside0.mk (Kd.R_below z9_16_ hb); have n5_ := Aside0.mk (Kd.R_below (by (with_reducible repeat (first | apply Kd.R_alloc | apply Kd.R_drewN | apply Kd.R_drew)); exact HO272.out) hb); have n6_ := Aside0.mk (Kd.R_lower (Kd.R_new' (Kd.R_new' ho0 (Kd.R_lt z9_11_)) (Kd.R_lt z9_14_)) (below_size z9_3_)); have n7_ := Aside0.mk (blk_below (g := gb240) (o := .cells #[.slice A0_0 l0_0.length c0_0] 31 (0, 0)) z9_6_ hb); have n8_ := Aside0.mk (blk_below (g := gb252) (o := .cells #[.slice Ao43 t249.length co43] 37 (0, 0)) z9_10_ hb); have n9_ := Aside0.mk (below_step z9_3_ hb); clear HO244; clear HO247; clear HO251; clear HO255; clear HO261; clear HO272; clear BK240; clear BK252; clear HB; have HO244 := n0_; have HO247 := n1_; have HO251 := n2_; have HO255 := n3_; have HO261 := n4_; have HO272 := n5_; have HO275 := n6_; have BK240 := n7_; have BK252 := n8_; have HB := n9_; clear n0_ n1_ n2_ n3_ n4_ n5_ n6_ n7_ n8_ n9_; (try clear hb); (try clear hb2); (try clear hk); (try clear hi); (try clear ho0); obtain ⟨Ao60, co60, eo60⟩ := Kd.R_slice HO275.out; subst eo60) | ((with_reducible refine gate_callee (f := 37) rfl ?_); refine goesL_ (some 81) rfl rfl Tryd.func37 (by kernel_rfl) rfl #[.slice Ao60 t273.length co60, .slice Ao48 t245.length co48] rfl z9_0_ ?_; (with_reducible refine (laws_eqIntS.calls k _ _ t273 _ _ t245 true _ ?side1 ?side2 ?side3 ?side4 A27.out).mono ?_); (case side1 => repeat (first | exact (Kd.R_reads' HO275.out).2.2 | (with_reducible refine Kd.C_alloc ?_ _) | (with_reducible refine Kd.C_drewN ?_ _) | (with_reducible refine Kd.C_drew ?_))); (case side2 => exact (Kd.R_reads' HO275.out).2.1); (case side3 => repeat (first | exact (Kd.R_reads' HO247.out).2.2 | (with_reducible refine Kd.C_alloc ?_ _) | (with_reducible refine Kd.C_drewN ?_ _) | (with_reducible refine Kd.C_drew ?_))); (case side4 => exact (Kd.R_reads' HO247.out).2.1); rintro e w' ⟨rfl, ⟨nd, rfl⟩⟩; refine ⟨_, rfl, ?_⟩) | ((with_reducible refine gate_callee (f := 39) rfl ?_); refine goesL_ (some 90) rfl rfl Tryd.func39 (by kernel_rfl) rfl #[.slice Ao47 t268.length co47, .int .i64 1] rfl z9_15_ ?_; (with_reducible refine (laws_heldIntS.calls k _ _ t268 1 t279 _ ?side1 ?side2 A30.out).mono ?_); (case side1 => repeat (first | exact (Kd.R_reads' HO255.out).2.2 | (with_reducible refine Kd.C_alloc ?_ _) | (with_reducible refine Kd.C_drewN ?_ _) | (with_reducible refine Kd.C_drew ?_))); (case side2 => rw [show t268.length = t253.length from (Kd.R_reads' HO255.out).1.symm]; exact (Kd.R_reads' HO255.out).2.1); rintro e w' ⟨rfl, ⟨nd, rfl⟩⟩; refine ⟨_, rfl, ?_⟩))
         go_ret
         exact ⟨by first | rfl | (simp [errW_none, errW_some] <;> rfl) | (simp [*, errW_none, errW_some] <;> rfl), by repeat (first | (with_reducible first | exact HB.out | apply below_alloc | apply pw_below_drewN | apply below_drew1 | refine below_set ?_ GE240.out | refine below_set ?_ GE252.out) | exact HB.out)⟩
       replace c28 := Bool.eq_false_iff.mpr c28
       subst c28
       rw [if_neg (show ¬ (false = true) by decide)] at H
       exact Bool.noConfusion ((Option.some.inj H).trans hr_.out)
     replace c20 := Bool.eq_false_iff.mpr c20
     subst c20
     rw [if_neg (show ¬ (false = true) by decide)] at H
     exact Bool.noConfusion ((Option.some.inj H).trans hr_.out)
   replace c16 := Bool.eq_false_iff.mpr c16
   subst c16
   rw [if_neg (show ¬ (false = true) by decide)] at H
   exact Bool.noConfusion ((Option.some.inj H).trans hr_.out)
 replace c12 := Bool.eq_false_iff.mpr c12
 subst c12
 rw [if_neg (show ¬ (false = true) by decide)] at H
 exact Bool.noConfusion ((Option.some.inj H).trans hr_.out)

end Go.Proofs.YtgpakeadepcgnaaDoor.PFnExactNeedlessClues

-- Laid by this session's program gprint.py over the kit's print.
import Derived.Test.YtjhmocngcnnfdaaDoorPFnExactParsePuzzlex0
import Derived.Test.YtjhmocngcnnfdaaDoorPFnExactParsePuzzlex5
import Derived.Test.YtjhmocngcnnfdaaDoorPFnExactParsePuzzlex6
namespace Go.Proofs.YtjhmocngcnnfdaaDoor.PFnExactParsePuzzle
open Go.RowKit Go.Proofs.YtjhmocngcnnfdaaDoorW.PrintWords Go.Proofs.YtjhmocngcnnfdaaDoorW.PrintLast Go.Proofs.YtjhmocngcnnfdaaDoorW.PrintMore
attribute [local go_sem] max2_int min2_int max_two min_two max_three min_three max_four min_four   -- for this text's walks alone
set_option linter.unusedVariables false
set_option linter.unusedSimpArgs false
theorem z7_0_ {p : Prop} (h : p := by repeat (first | (with_reducible first | exact HB.out | apply below_alloc | apply pw_below_drewN | apply below_drew1 | refine below_set ?_ GE193.out | refine below_set ?_ GE198.out) | exact HB.out)) : p := h
theorem z7_1_ {p : Prop} (h : p := by (with_reducible repeat (first | refine blk_drewN ?_ _ | refine blk_drew ?_ | refine blk_alloc ?_ _)); refine blk_put (cs := #[.slice none 0 0]) ?_ 0 _ rfl; (with_reducible repeat (first | refine blk_drewN ?_ _ | refine blk_drew ?_ | refine blk_alloc ?_ _)); exact BK2.out) : p := h
theorem z7_2_ {p : Prop} (h : p := by (with_reducible repeat (first | refine blk_drewN ?_ _ | refine blk_drew ?_ | refine blk_alloc ?_ _)); exact BK193.out) : p := h
theorem z7_3_ {p : Prop} (h : p := by repeat (first | (with_reducible first | exact HB.out | apply below_alloc | apply pw_below_drewN | apply below_drew1 | refine below_set ?_ GE193.out) | exact HB.out)) : p := h
theorem z7_4_ {p : Prop} (h : p := by (with_reducible repeat (first | apply Kd.R_alloc | apply Kd.R_drewN | apply Kd.R_drew)); exact HO_3.out) : p := h
theorem z7_5_ {p : Prop} (h : p := by (try simp only [List.map_toArray, List.map_cons, List.map_nil]); first | done | rfl | (simp only [List.length_drop, List.length_take]; rfl)) : p := h
theorem z7_6_ {p : Prop} (h : p := by (with_reducible repeat (first | refine blk_drewN ?_ _ | refine blk_drew ?_ | refine blk_alloc ?_ _)); exact BK198.out) : p := h
theorem z7_7_ {p : Prop} (h : p := by repeat (first | (with_reducible first | exact HB.out | apply below_alloc | apply pw_below_drewN | apply below_drew1) | exact HB.out)) : p := h

/-! ### impl_puzzleText: function 64 -/
def impl_puzzleText.l0 : Nat → List ByteArray → List (S96) → Int → Int → Option (ByteArray)
 | 0, _, _, _, _ => none
 | k + 1, x3, x8, x9, x10 => if x10 < x9 then (if 0 ≤ x10 then (if x10 < (x8.length : Int) then ((strconv_Itoa.f ((rd_T96 x8 x10).f0)).bind fun t199 => (if t199.size + 1 ≤ 9223372036854775807 then ((strconv_Itoa.f ((rd_T96 x8 x10).f1)).bind fun t200 => (if (t199 ++ (⟨#[46]⟩ : ByteArray)).size + t200.size ≤ 9223372036854775807 then (if ((t199 ++ (⟨#[46]⟩ : ByteArray)) ++ t200).size + 1 ≤ 9223372036854775807 then ((strconv_Itoa.f ((rd_T96 x8 x10).f2)).bind fun t201 => (if (((t199 ++ (⟨#[46]⟩ : ByteArray)) ++ t200) ++ (⟨#[46]⟩ : ByteArray)).size + t201.size ≤ 9223372036854775807 then (if x3.length < 8796093022208 then (impl_puzzleText.l0 k (x3 ++ [(((t199 ++ (⟨#[46]⟩ : ByteArray)) ++ t200) ++ (⟨#[46]⟩ : ByteArray)) ++ t201]) x8 x9 (wrap64 (x10 + 1))) else (none)) else (none))) else (none)) else (none))) else (none))) else (none)) else (none)) else ((strings_Join.f x3 (⟨#[44]⟩ : ByteArray)).bind fun t205 => (some t205))
def impl_puzzleText.f (k : Nat) (l0_0 : List (S96)) : Option (ByteArray) := impl_puzzleText.l0 k (([] : List ByteArray)) l0_0 (l0_0.length : Int) 0
theorem impl_puzzleText.mono_l : ∀ k, (∀ y0 y1 y2 y3, LeO (impl_puzzleText.l0 k y0 y1 y2 y3) (impl_puzzleText.l0 (k + 1) y0 y1 y2 y3))
 | 0 => fun _ _ _ _ r h => by simp [impl_puzzleText.l0] at h
 | k + 1 => by
  have ih0 := impl_puzzleText.mono_l k
  intro y0 y1 y2 y3
  unfold impl_puzzleText.l0
  repeat' first
  | (with_reducible exact ih0 _ _ _ _)
  | (with_reducible exact LeO.refl _)
  | (with_reducible exact LeO.none _)
  | (with_reducible refine LeO.ite ?_ ?_)
  | (with_reducible refine LeO.bind ?_ (fun _ => ?_))
  | exact ih0 _ _ _ _
  | exact LeO.none _
  | refine LeO.ite ?_ ?_
  | refine LeO.bind ?_ (fun _ => ?_)
theorem impl_puzzleText.mono : ∀ a0 k, LeO (impl_puzzleText.f k a0) (impl_puzzleText.f (k + 1) a0) := by
 intro a0 k
 have ih0 := impl_puzzleText.mono_l k
 unfold impl_puzzleText.f
 repeat' first
  | (with_reducible exact ih0 _ _ _ _)
  | (with_reducible exact LeO.refl _)
  | (with_reducible exact LeO.none _)
  | (with_reducible refine LeO.ite ?_ ?_)
  | (with_reducible refine LeO.bind ?_ (fun _ => ?_))
  | exact ih0 _ _ _ _
  | exact LeO.none _
  | refine LeO.ite ?_ ?_
  | refine LeO.bind ?_ (fun _ => ?_)
def impl_puzzleText.T5 : Bool × List (List Nat × List Nat) := (true, [([], []), ([], []), ([1], [1]), ([2], [2]), ([3], [3]), ([], []), ([5], [5]), ([6, 3], [6]), ([4, 7], [4, 7]), ([8], [8]), ([], []), ([10], [10]), ([11, 7], [11]), ([9, 12], [9, 12]), ([13], [13]), ([0, 14, 12], [0, 14]), ([15, 15, 0, 1, 2, 3, 4, 5, 6, 7, 8, 9, 10, 11, 12, 13, 14, 15], [0, 15])])
def impl_puzzleText.B5 : List Nat := [0, 0, 2, 6, 14, 0, 32, 110, 254, 510, 0, 1024, 3310, 8190, 16382, 32767, 65535]
theorem impl_puzzleText.tab5 : rtab .any (opsOf Tryd.f64 5) = impl_puzzleText.T5 := by kernel_rfl
theorem impl_puzzleText.bits5 : waitsOk impl_puzzleText.T5.2 impl_puzzleText.B5 = true := by kernel_rfl
set_option maxHeartbeats 8000000 in
set_option maxRecDepth 100000 in
theorem impl_puzzleText.calls (k : Nat) (A0_0 : Option Addr) (c0_0 : Nat) (l0_0 : List (S96)) (r : ByteArray) (w : World) (hT : Shelf.TabOk w) (hr0_0 : Kd.C k96 w A0_0 l0_0.length l0_0) (hc0_0 : l0_0.length ≤ c0_0) (h : impl_puzzleText.f k l0_0 = some r) :
 Calls Tryd.prog 64 #[.agg #[.slice A0_0 l0_0.length c0_0]] w fun e w' => e = .returned (.string r) ∧ Below w.heap.size w w' := by
 have hu30 := Tryd.underlying30
 have hu96 := Tryd.underlying96
 have HR0_0 := Aside0.mk hr0_0
 have HC0_0 := Aside0.mk hc0_0
 clear hr0_0 hc0_0
 have HT := Aside0.mk hT
 clear hT
 have HB := Aside0.mk (Below.refl w.heap.size w)
 have H : (impl_puzzleText.l0 k (([] : List ByteArray)) l0_0 (l0_0.length : Int) 0) = some r := h
 clear h
 obtain ⟨y194, hy194⟩ : ∃ y_ : List ByteArray, y_ = (([] : List ByteArray)) := ⟨_, rfl⟩
 replace H : (impl_puzzleText.l0 k y194 l0_0 (l0_0.length : Int) 0) = some r := by first | (rw [hy194]; with_reducible exact H) | (have H2_ := (Option.bind_some _ _).symm.trans H; rw [hy194]; with_reducible exact H2_) | (have H2_ := (Option.bind_some _ _).symm.trans H; with_reducible exact H2_) | with_reducible exact H | (rw [hy194]; exact H) | exact H
 have Ny194 := Aside0.mk hy194
 clear hy194
 have H' := Aside0.mk H
 clear H
 go_enter Tryd.func64, Tryd.ntmps64
 go_wp2_with (first | ((with_reducible refine gate_dst (N := 1) rfl ?_); refine box_event ?hg (N := 1) ?hd (cs := #[.slice A0_0 l0_0.length c0_0]) (t := 30) ?hr ?_; (case hd => rfl); (case hg => rfl); (case hr => first | (go_simp; done) | (go_simp; rfl)); intro gb193 hg w2 hbox hb; have n0_ := Aside0.mk (below_step z7_7_ hb); have n1_ := Aside0.mk (hbox); have n2_ := Aside0.mk ((by rw [hg]; exact (below_size z7_7_) : w.heap.size ≤ gb193)); have n3_ := Aside0.mk ((by rw [hg]; exact (below_size z7_7_) : w.heap.size ≤ gb193)); clear HB; have HB := n0_; have BK193 := n1_; have GW193 := n2_; have GE193 := n3_; clear n0_ n1_ n2_ n3_; clear hb hbox hg) | ((with_reducible refine gate_dst (N := 6) rfl ?_); refine Kd.R_lit Kd.string _ 9 ?hg (N := 6) ?hd (xs := ([] : List ByteArray)) (inner := []) (ok := fun _ => True) (okp := fun _ => True) ?hr ?hp (fun _ hk => hk) trivial (Below.refl _ _) (Nat.le_refl _) (by simp) ?_; (case hd => rfl); (case hg => rfl); (case hr => first | (go_simp; done) | (go_simp; rfl)); (case hp => exact (Reps.none _ _)); intro v195 w3 ho4 hb hg_ hnew_; clear hg_ hnew_; (first | rw [← Ny194.out] at ho4 | (simp only [Int.reduceToNat] at ho4; rw [← Ny194.out] at ho4)); have n0_ := Aside0.mk (Kd.R_lower ho4 (below_size z7_3_)); have n1_ := Aside0.mk (blk_below (g := gb193) (o := .cells #[.slice A0_0 l0_0.length c0_0] 30 (0, 0)) z7_2_ hb); have n2_ := Aside0.mk (below_step z7_3_ hb); clear BK193; clear HB; have HO196 := n0_; have BK193 := n1_; have HB := n2_; clear n0_ n1_ n2_; clear hb ho4; have hcz5_0 : w3.cell? ⟨gb193, 0, none⟩ = some (.slice A0_0 l0_0.length c0_0) := (blk_cell BK193.out 0).trans rfl; have hfz5_0 := blk_frozen BK193.out 0))
 go_loopg [3, 10] k (fun kq v3 v10 w' => ∃ (x3_1 : List ByteArray) (x10_1 : Int), v10 = .int .i64 x10_1 ∧ Aside0 (impl_puzzleText.l0 kq x3_1 l0_0 (l0_0.length : Int) x10_1 = some r) ∧ Aside0 (kq ≤ k) ∧ Aside0 (Kd.R Kd.string 9 w' w.heap.size (fun _ => True) v3 x3_1) ∧ Aside0 (w'.heap[gb193]? = some (.cells #[(.slice A0_0 l0_0.length c0_0)] 30 (0, 0))) ∧ Aside0 (Below w.heap.size w w'))
 case atStart => exact ⟨(y194), (0), (by first | rfl | (simp; done) | (simp [*]; done)), H', ⟨Nat.le_refl _⟩, ⟨by (with_reducible repeat (first | apply Kd.R_alloc | apply Kd.R_drewN | apply Kd.R_drew)); exact HO196.out⟩, ⟨by (with_reducible repeat (first | refine blk_drewN ?_ _ | refine blk_drew ?_ | refine blk_alloc ?_ _)); exact BK193.out⟩, ⟨by repeat (first | (with_reducible first | exact HB.out | apply below_alloc | apply pw_below_drewN | apply below_drew1 | refine below_set ?_ GE193.out) | exact HB.out)⟩⟩
 case round =>
  clear H'
  (try clear p2);(try clear hcz5_0);(try clear hfz5_0)
  obtain ⟨x3_1, x10_1, rfl, HA, HK1, HO_3, BK193, HB⟩ := hrel
  cases gk with
  | zero => exact absurd HA.out (by simp [impl_puzzleText.l0])
  | succ k1 =>
   have H := HA.out
   clear HA
   simp only [impl_puzzleText.l0] at H
   by_cases c6 : x10_1 < (l0_0.length : Int)
   · rw [if_pos c6] at H
     have c6b0 : decide (x10_1 < (l0_0.length : Int)) = true := decide_eq_true c6
     clear c6
     by_cases c7 : 0 ≤ x10_1
     rotate_left
     · exact none_ (if_neg c7) H
     rw [if_pos c7] at H
     have c7b0 : decide (0 ≤ x10_1) = true := decide_eq_true c7
     clear c7
     by_cases c8 : x10_1 < (l0_0.length : Int)
     rotate_left
     · exact none_ (if_neg c8) H
     rw [if_pos c8] at H
     have c8b0 : decide (x10_1 < (l0_0.length : Int)) = true := decide_eq_true c8
     clear c8
     replace H := Option.bind_eq_some_iff.mp H
     obtain ⟨t199, A90, H⟩ := H
     have A9 := Aside0.mk A90
     clear A90
     by_cases c10 : t199.size + 1 ≤ 9223372036854775807
     rotate_left
     · exact none_ (if_neg c10) H
     rw [if_pos c10] at H
     have c10b0 := eq_true c10
     have c10b1 : decide (t199.size + 1 ≤ 9223372036854775807) = true := decide_eq_true c10
     try have c10b2 : (9223372036854775807 < t199.size + 1) = False := eq_false (Nat.not_lt.2 c10)
     replace H := Option.bind_eq_some_iff.mp H
     obtain ⟨t200, A110, H⟩ := H
     have A11 := Aside0.mk A110
     clear A110
     by_cases c12 : (t199 ++ (⟨#[46]⟩ : ByteArray)).size + t200.size ≤ 9223372036854775807
     rotate_left
     · exact none_ (if_neg c12) H
     rw [if_pos c12] at H
     have c12b0 := eq_true c12
     have c12b1 : decide ((t199 ++ (⟨#[46]⟩ : ByteArray)).size + t200.size ≤ 9223372036854775807) = true := decide_eq_true c12
     try have c12b2 : (9223372036854775807 < (t199 ++ (⟨#[46]⟩ : ByteArray)).size + t200.size) = False := eq_false (Nat.not_lt.2 c12)
     try have c12b3 : (9223372036854775807 < t199.size + 1 + t200.size) = False := eq_false (Nat.not_lt.2 (by simpa only [ByteArray.size_append, lit_size_, List.size_toArray, List.length_cons, List.length_nil, Nat.zero_add, Nat.reduceAdd] using c12))
     by_cases c13 : ((t199 ++ (⟨#[46]⟩ : ByteArray)) ++ t200).size + 1 ≤ 9223372036854775807
     rotate_left
     · exact none_ (if_neg c13) H
     rw [if_pos c13] at H
     have c13b0 := eq_true c13
     have c13b1 : decide (((t199 ++ (⟨#[46]⟩ : ByteArray)) ++ t200).size + 1 ≤ 9223372036854775807) = true := decide_eq_true c13
     try have c13b2 : (9223372036854775807 < ((t199 ++ (⟨#[46]⟩ : ByteArray)) ++ t200).size + 1) = False := eq_false (Nat.not_lt.2 c13)
     try have c13b3 : (9223372036854775807 < t199.size + 1 + t200.size + 1) = False := eq_false (Nat.not_lt.2 (by simpa only [ByteArray.size_append, lit_size_, List.size_toArray, List.length_cons, List.length_nil, Nat.zero_add, Nat.reduceAdd] using c13))
     replace H := Option.bind_eq_some_iff.mp H
     obtain ⟨t201, A140, H⟩ := H
     have A14 := Aside0.mk A140
     clear A140
     by_cases c15 : (((t199 ++ (⟨#[46]⟩ : ByteArray)) ++ t200) ++ (⟨#[46]⟩ : ByteArray)).size + t201.size ≤ 9223372036854775807
     rotate_left
     · exact none_ (if_neg c15) H
     rw [if_pos c15] at H
     have c15b0 := eq_true c15
     have c15b1 : decide ((((t199 ++ (⟨#[46]⟩ : ByteArray)) ++ t200) ++ (⟨#[46]⟩ : ByteArray)).size + t201.size ≤ 9223372036854775807) = true := decide_eq_true c15
     try have c15b2 : (9223372036854775807 < (((t199 ++ (⟨#[46]⟩ : ByteArray)) ++ t200) ++ (⟨#[46]⟩ : ByteArray)).size + t201.size) = False := eq_false (Nat.not_lt.2 c15)
     try have c15b3 : (9223372036854775807 < t199.size + 1 + t200.size + 1 + t201.size) = False := eq_false (Nat.not_lt.2 (by simpa only [ByteArray.size_append, lit_size_, List.size_toArray, List.length_cons, List.length_nil, Nat.zero_add, Nat.reduceAdd] using c15))
     by_cases c16 : x3_1.length < 8796093022208
     rotate_left
     · exact none_ (if_neg c16) H
     rw [if_pos c16] at H
     have LMc16 := Aside0.mk c16
     clear c16
     obtain ⟨y202, hy202⟩ : ∃ y_ : List ByteArray, y_ = (x3_1 ++ [(((t199 ++ (⟨#[46]⟩ : ByteArray)) ++ t200) ++ (⟨#[46]⟩ : ByteArray)) ++ t201]) := ⟨_, rfl⟩
     replace H : (impl_puzzleText.l0 k1 y202 l0_0 (l0_0.length : Int) (wrap64 (x10_1 + 1))) = some r := by first | (rw [hy202]; with_reducible exact H) | (have H2_ := (Option.bind_some _ _).symm.trans H; rw [hy202]; with_reducible exact H2_) | (have H2_ := (Option.bind_some _ _).symm.trans H; with_reducible exact H2_) | with_reducible exact H | (rw [hy202]; exact H) | exact H
     have Ny202 := Aside0.mk hy202
     clear hy202
     have H' := Aside0.mk H
     clear H
     have p197 : 0 ≤ (x10_1 : Int) := of_decide_eq_true (by first | (with_reducible assumption) | assumption)
     have q197 : x10_1 < (l0_0.length : Int) := of_decide_eq_true (by first | (with_reducible assumption) | assumption)
     obtain ⟨ad197, e197, hx197_0, hx197_1, hx197_2⟩ := at_T96 HR0_0.out x10_1 p197 q197
     cases e197
     replace hx197_0 := (HB.out.cell (World.block_lt_of_cell? w _ hx197_0)).trans hx197_0
     replace hx197_1 := (HB.out.cell (World.block_lt_of_cell? w _ hx197_1)).trans hx197_1
     replace hx197_2 := (HB.out.cell (World.block_lt_of_cell? w _ hx197_2)).trans hx197_2
     replace p197 := eq_true p197
     replace q197 := eq_true q197
     try go_wp2_with (first | ((with_reducible refine gate_dst (N := 5) rfl ?_); refine box_event ?hg (N := 5) ?hd (cs := #[.int .i64 0, .int .i64 0, .int .i64 0]) (t := 96) ?hr ?_; (case hd => rfl); (case hg => rfl); (case hr => first | (go_simp; done) | (go_simp; rfl)); intro gb198 hg w17 hbox hb; have n0_ := Aside0.mk (Kd.R_below z7_4_ hb); have n1_ := Aside0.mk (blk_below (g := gb193) (o := .cells #[.slice (some ad197) l0_0.length c0_0] 30 (0, 0)) z7_2_ hb); have n2_ := Aside0.mk (below_step z7_3_ hb); have n3_ := Aside0.mk (hbox); have n4_ := Aside0.mk ((by rw [hg]; exact (below_size z7_3_) : w.heap.size ≤ gb198)); have n5_ := Aside0.mk ((by rw [hg]; exact (below_size z7_3_) : w.heap.size ≤ gb198)); have n6_ := Aside0.mk ((by rw [hg]; exact Nat.ne_of_lt (blk_lt (g := gb193) (o := .cells #[.slice (some ad197) l0_0.length c0_0] 30 (0, 0)) z7_2_) : gb193 ≠ gb198)); have n7_ := Aside0.mk ((by rw [hg]; exact Nat.ne_of_gt (blk_lt (g := gb193) (o := .cells #[.slice (some ad197) l0_0.length c0_0] 30 (0, 0)) z7_2_) : gb198 ≠ gb193)); clear HO_3; clear BK193; clear HB; have HO_3 := n0_; have BK193 := n1_; have HB := n2_; have BK198 := n3_; have GW198 := n4_; have GE198 := n5_; have NB193_198 := n6_; have NB198_193 := n7_; clear n0_ n1_ n2_ n3_ n4_ n5_ n6_ n7_; clear hb hbox hg; have hnb18 := NB198_193.out; have hnc18 := NB193_198.out; have hcz19_0 : w17.cell? ⟨gb198, 0, none⟩ = some (.int .i64 0) := (blk_cell BK198.out 0).trans rfl; have hcz19_1 : w17.cell? ⟨gb198, 1, none⟩ = some (.int .i64 0) := (blk_cell BK198.out 1).trans rfl; have hcz19_2 : w17.cell? ⟨gb198, 2, none⟩ = some (.int .i64 0) := (blk_cell BK198.out 2).trans rfl; have hfz19_0 := blk_frozen BK198.out 0; have hfz19_1 := blk_frozen BK198.out 1; have hfz19_2 := blk_frozen BK198.out 2))
     have n0_ : Aside0 (Kd.R Kd.string 9 (((w17.setCell ⟨gb198, 0, none⟩ (.int .i64 ((rd_T96 l0_0 x10_1).f0))).setCell ⟨gb198, 1, none⟩ (.int .i64 ((rd_T96 l0_0 x10_1).f1))).setCell ⟨gb198, 2, none⟩ (.int .i64 ((rd_T96 l0_0 x10_1).f2))) w.heap.size (fun _ => True) u3 x3_1) := ⟨by (with_reducible repeat (first | apply Kd.R_alloc | apply Kd.R_drewN | apply Kd.R_drew)); exact Kd.R_mono (Kd.R_far (p := ⟨gb198, 2, none⟩) (Kd.R_far (p := ⟨gb198, 1, none⟩) (Kd.R_far (p := ⟨gb198, 0, none⟩) (Kd.R_types HO_3.out BK198.out (by decide)) (fun _ hk => hk.2) (.int .i64 ((rd_T96 l0_0 x10_1).f0))) (fun _ hk => hk.2) (.int .i64 ((rd_T96 l0_0 x10_1).f1))) (fun _ hk => hk.2) (.int .i64 ((rd_T96 l0_0 x10_1).f2))) (fun _ hk => trivial)⟩
     have n1_ : Aside0 ((((w17.setCell ⟨gb198, 0, none⟩ (.int .i64 ((rd_T96 l0_0 x10_1).f0))).setCell ⟨gb198, 1, none⟩ (.int .i64 ((rd_T96 l0_0 x10_1).f1))).setCell ⟨gb198, 2, none⟩ (.int .i64 ((rd_T96 l0_0 x10_1).f2))).heap[gb193]? = some (.cells #[.slice (some ad197) l0_0.length c0_0] 30 (0, 0))) := ⟨by (with_reducible repeat (first | refine blk_drewN ?_ _ | refine blk_drew ?_ | refine blk_alloc ?_ _)); refine blk_far ?_ NB193_198.out _; (with_reducible repeat (first | refine blk_drewN ?_ _ | refine blk_drew ?_ | refine blk_alloc ?_ _)); refine blk_far ?_ NB193_198.out _; (with_reducible repeat (first | refine blk_drewN ?_ _ | refine blk_drew ?_ | refine blk_alloc ?_ _)); refine blk_far ?_ NB193_198.out _; (with_reducible repeat (first | refine blk_drewN ?_ _ | refine blk_drew ?_ | refine blk_alloc ?_ _)); exact BK193.out⟩
     have n2_ : Aside0 ((((w17.setCell ⟨gb198, 0, none⟩ (.int .i64 ((rd_T96 l0_0 x10_1).f0))).setCell ⟨gb198, 1, none⟩ (.int .i64 ((rd_T96 l0_0 x10_1).f1))).setCell ⟨gb198, 2, none⟩ (.int .i64 ((rd_T96 l0_0 x10_1).f2))).heap[gb198]? = some (.cells #[.int .i64 ((rd_T96 l0_0 x10_1).f0), .int .i64 ((rd_T96 l0_0 x10_1).f1), .int .i64 ((rd_T96 l0_0 x10_1).f2)] 96 (0, 0))) := ⟨by (with_reducible repeat (first | refine blk_drewN ?_ _ | refine blk_drew ?_ | refine blk_alloc ?_ _)); refine blk_put (cs := #[.int .i64 ((rd_T96 l0_0 x10_1).f0), .int .i64 ((rd_T96 l0_0 x10_1).f1), .int .i64 0]) ?_ 2 _ rfl; (with_reducible repeat (first | refine blk_drewN ?_ _ | refine blk_drew ?_ | refine blk_alloc ?_ _)); refine blk_put (cs := #[.int .i64 ((rd_T96 l0_0 x10_1).f0), .int .i64 0, .int .i64 0]) ?_ 1 _ rfl; (with_reducible repeat (first | refine blk_drewN ?_ _ | refine blk_drew ?_ | refine blk_alloc ?_ _)); refine blk_put (cs := #[.int .i64 0, .int .i64 0, .int .i64 0]) ?_ 0 _ rfl; (with_reducible repeat (first | refine blk_drewN ?_ _ | refine blk_drew ?_ | refine blk_alloc ?_ _)); exact BK198.out⟩
     have n3_ : Aside0 (Below w.heap.size w (((w17.setCell ⟨gb198, 0, none⟩ (.int .i64 ((rd_T96 l0_0 x10_1).f0))).setCell ⟨gb198, 1, none⟩ (.int .i64 ((rd_T96 l0_0 x10_1).f1))).setCell ⟨gb198, 2, none⟩ (.int .i64 ((rd_T96 l0_0 x10_1).f2)))) := ⟨by repeat (first | (with_reducible first | exact HB.out | apply below_alloc | apply pw_below_drewN | apply below_drew1 | refine below_set ?_ GE193.out | refine below_set ?_ GE198.out) | exact HB.out)⟩
     (try clear HO_3)
     (try clear BK193)
     (try clear BK198)
     (try clear HB)
     generalize (((w17.setCell ⟨gb198, 0, none⟩ (.int .i64 ((rd_T96 l0_0 x10_1).f0))).setCell ⟨gb198, 1, none⟩ (.int .i64 ((rd_T96 l0_0 x10_1).f1))).setCell ⟨gb198, 2, none⟩ (.int .i64 ((rd_T96 l0_0 x10_1).f2))) = w20 at n0_ n1_ n2_ n3_ ⊢
     have HO_3 := n0_
     have BK193 := n1_
     have BK198 := n2_
     have HB := n3_
     clear n0_ n1_ n2_ n3_
     have n0_ := Aside0.mk (Kd.R_drew HO_3.out)
     have n1_ := Aside0.mk (blk_drew BK193.out)
     have n2_ := Aside0.mk (blk_drew BK198.out)
     have n3_ := Aside0.mk (below_drew1 HB.out)
     clear HO_3
     clear BK193
     clear BK198
     clear HB
     have HO_3 := n0_
     have BK193 := n1_
     have BK198 := n2_
     have HB := n3_
     clear n0_ n1_ n2_ n3_
     refine start_ (n := 17) (S := fun w' => w'.cell? ⟨gb198, 0, none⟩ = some (.int .i64 ((rd_T96 l0_0 x10_1).f0)) ∧ w'.cell? ⟨gb198, 1, none⟩ = some (.int .i64 ((rd_T96 l0_0 x10_1).f1)) ∧ w'.cell? ⟨gb198, 2, none⟩ = some (.int .i64 ((rd_T96 l0_0 x10_1).f2))) (ds := []) #[false, false, false, false, false, false, false, false, false, false, false, false, false, false, false, false, false] (by kernel_rfl) rfl rfl ⟨(blk_cell BK198.out 0).trans rfl, (blk_cell BK198.out 1).trans rfl, (blk_cell BK198.out 2).trans rfl⟩ (fun hHeld => ?_); refine with_tabW impl_puzzleText.tab5 impl_puzzleText.bits5 (fun HT_ HW_ => ?_)
     generalize w20.drew = w21 at HO_3 BK193 BK198 HB hHeld ⊢
     refine pure_ (i := 0) (N := some 14) (v := ?_) (a' := ?_) #[true, false, false, false, false, false, false, false, false, false, false, false, false, false, false, false, false] rfl rfl (any_of HT_.out (by kernel_rfl)) (fun _ _ _ h => h) (Or.inl ⟨by rfl, ?_⟩) ?_ ?_
     rotate_left
     · intro w'
       go_simp
       with_reducible rfl
     rotate_left
     · simp only [Act.put, List.setIfInBounds_toArray, List.set_cons_zero, List.set_cons_succ, i64_w, i32_w]
       rfl
     refine pure_ (i := 1) (N := some 15) (v := ?_) (a' := ?_) #[true, true, false, false, false, false, false, false, false, false, false, false, false, false, false, false, false] rfl rfl (any_of HT_.out (by kernel_rfl)) (fun _ _ _ h => h) (Or.inl ⟨by rfl, ?_⟩) ?_ ?_
     rotate_left
     · intro w'
       go_simp
       with_reducible rfl
     rotate_left
     · simp only [Act.put, List.setIfInBounds_toArray, List.set_cons_zero, List.set_cons_succ, i64_w, i32_w]
       rfl
     refine pure_ (i := 5) (N := some 19) (v := ?_) (a' := ?_) #[true, true, false, false, false, true, false, false, false, false, false, false, false, false, false, false, false] rfl rfl (any_of HT_.out (by kernel_rfl)) (fun _ _ _ h => h) (Or.inl ⟨by rfl, ?_⟩) ?_ ?_
     rotate_left
     · intro w'
       go_simp
       with_reducible rfl
     rotate_left
     · simp only [Act.put, List.setIfInBounds_toArray, List.set_cons_zero, List.set_cons_succ, i64_w, i32_w]
       rfl
     refine pure_ (i := 10) (N := some 24) (v := ?_) (a' := ?_) #[true, true, false, false, false, true, false, false, false, false, true, false, false, false, false, false, false] rfl rfl (any_of HT_.out (by kernel_rfl)) (fun _ _ _ h => h) (Or.inl ⟨by rfl, ?_⟩) ?_ ?_
     rotate_left
     · intro w'
       go_simp
       with_reducible rfl
     rotate_left
     · simp only [Act.put, List.setIfInBounds_toArray, List.set_cons_zero, List.set_cons_succ, i64_w, i32_w]
       rfl
     refine take_ (i := 2) (N := some 16) (v := ?_) (a' := ?_) #[true, true, true, false, false, true, false, false, false, false, true, false, false, false, false, false, false] rfl rfl (take_ofW HT_.out HW_.out (by kernel_rfl)) (fun _ _ _ h => h) (Or.inl ⟨by rfl, ?_⟩) hHeld ?_ ?_
     rotate_left
     · rintro w' ⟨s0, s1, s2⟩
       go_simp
       with_reducible rfl
     rotate_left
     · simp only [Act.put, List.setIfInBounds_toArray, List.set_cons_zero, List.set_cons_succ, i64_w, i32_w]
       rfl
     refine take_ (i := 6) (N := some 20) (v := ?_) (a' := ?_) #[true, true, true, false, false, true, true, false, false, false, true, false, false, false, false, false, false] rfl rfl (take_ofW HT_.out HW_.out (by kernel_rfl)) (fun _ _ _ h => h) (Or.inl ⟨by rfl, ?_⟩) hHeld ?_ ?_
     rotate_left
     · rintro w' ⟨s0, s1, s2⟩
       go_simp
       with_reducible rfl
     rotate_left
     · simp only [Act.put, List.setIfInBounds_toArray, List.set_cons_zero, List.set_cons_succ, i64_w, i32_w]
       rfl
     refine take_ (i := 11) (N := some 25) (v := ?_) (a' := ?_) #[true, true, true, false, false, true, true, false, false, false, true, true, false, false, false, false, false] rfl rfl (take_ofW HT_.out HW_.out (by kernel_rfl)) (fun _ _ _ h => h) (Or.inl ⟨by rfl, ?_⟩) hHeld ?_ ?_
     rotate_left
     · rintro w' ⟨s0, s1, s2⟩
       go_simp
       with_reducible rfl
     rotate_left
     · simp only [Act.put, List.setIfInBounds_toArray, List.set_cons_zero, List.set_cons_succ, i64_w, i32_w]
       rfl
     refine one_ (i := 3) (N := some 17) #[true, true, true, true, false, true, true, false, false, false, true, true, false, false, false, false, false] rfl rfl (one_of HT_.out (by kernel_rfl)) (by decide) (fun K hK => ?_)
     refine goes_ Tryd.func89 (by kernel_rfl) rfl #[.int .i64 ((rd_T96 l0_0 x10_1).f0)] (by rfl) rfl rfl z7_5_ ?_
     with_reducible refine (strconv_Itoa.calls ((rd_T96 l0_0 x10_1).f0) t199 _ ?side1 A9.out).mono ?_
     (case side1 => exact Shelf.TabOk.below HT.out z7_0_)
     rintro e w22 ⟨rfl, hb⟩
     refine ⟨_, rfl, ?_⟩
     have n0_ := Aside0.mk (Kd.R_below z7_4_ hb)
     have n1_ := Aside0.mk (blk_below (g := gb193) (o := .cells #[.slice (some ad197) l0_0.length c0_0] 30 (0, 0)) z7_2_ hb)
     have n2_ := Aside0.mk (blk_below (g := gb198) (o := .cells #[.int .i64 ((rd_T96 l0_0 x10_1).f0), .int .i64 ((rd_T96 l0_0 x10_1).f1), .int .i64 ((rd_T96 l0_0 x10_1).f2)] 96 (0, 0)) z7_6_ hb)
     have n3_ := Aside0.mk (below_step z7_0_ hb)
     clear HO_3
     clear BK193
     clear BK198
     clear HB
     have HO_3 := n0_
     have BK193 := n1_
     have BK198 := n2_
     have HB := n3_
     clear n0_ n1_ n2_ n3_
     (try clear hb)
     (try clear hb2)
     (try clear hk)
     (try clear hi)
     refine hK.out _ _ ⟨(blk_cell BK198.out 0).trans rfl, (blk_cell BK198.out 1).trans rfl, (blk_cell BK198.out 2).trans rfl⟩ (fun hHeld => ?_)
     clear hK K
     refine norm_ (a' := ?_) ?_ ?_
     rotate_left
     · show Act.put _ (some 17) _ = _
       simp only [Act.put, List.setIfInBounds_toArray, List.set_cons_zero, List.set_cons_succ, i64_w, i32_w]
       rfl
     refine pure_ (i := 4) (N := some 18) (v := ?_) (a' := ?_) #[true, true, true, true, true, true, true, false, false, false, true, true, false, false, false, false, false] rfl rfl (any_of HT_.out (by kernel_rfl)) (fun _ _ _ h => h) (Or.inl ⟨by rfl, ?_⟩) ?_ ?_
     rotate_left
     · intro w'
       go_simp
       with_reducible rfl
     rotate_left
     · simp only [Act.put, List.setIfInBounds_toArray, List.set_cons_zero, List.set_cons_succ, i64_w, i32_w]
       rfl
     refine one_ (i := 7) (N := some 21) #[true, true, true, true, true, true, true, true, false, false, true, true, false, false, false, false, false] rfl rfl (one_of HT_.out (by kernel_rfl)) (by decide) (fun K hK => ?_)
     refine goes_ Tryd.func89 (by kernel_rfl) rfl #[.int .i64 ((rd_T96 l0_0 x10_1).f1)] (by rfl) rfl rfl z7_5_ ?_
     with_reducible refine (strconv_Itoa.calls ((rd_T96 l0_0 x10_1).f1) t200 _ ?side1 A11.out).mono ?_
     (case side1 => exact Shelf.TabOk.below HT.out z7_0_)
     rintro e w23 ⟨rfl, hb⟩
     refine ⟨_, rfl, ?_⟩
     have n0_ := Aside0.mk (Kd.R_below z7_4_ hb)
     have n1_ := Aside0.mk (blk_below (g := gb193) (o := .cells #[.slice (some ad197) l0_0.length c0_0] 30 (0, 0)) z7_2_ hb)
     have n2_ := Aside0.mk (blk_below (g := gb198) (o := .cells #[.int .i64 ((rd_T96 l0_0 x10_1).f0), .int .i64 ((rd_T96 l0_0 x10_1).f1), .int .i64 ((rd_T96 l0_0 x10_1).f2)] 96 (0, 0)) z7_6_ hb)
     have n3_ := Aside0.mk (below_step z7_0_ hb)
     clear HO_3
     clear BK193
     clear BK198
     clear HB
     have HO_3 := n0_
     have BK193 := n1_
     have BK198 := n2_
     have HB := n3_
     clear n0_ n1_ n2_ n3_
     (try clear hb)
     (try clear hb2)
     (try clear hk)
     (try clear hi)
     refine hK.out _ _ ⟨(blk_cell BK198.out 0).trans rfl, (blk_cell BK198.out 1).trans rfl, (blk_cell BK198.out 2).trans rfl⟩ (fun hHeld => ?_)
     clear hK K
     refine norm_ (a' := ?_) ?_ ?_
     rotate_left
     · show Act.put _ (some 21) _ = _
       simp only [Act.put, List.setIfInBounds_toArray, List.set_cons_zero, List.set_cons_succ, i64_w, i32_w]
       rfl
     refine pure_ (i := 8) (N := some 22) (v := ?_) (a' := ?_) #[true, true, true, true, true, true, true, true, true, false, true, true, false, false, false, false, false] rfl rfl (any_of HT_.out (by kernel_rfl)) (fun _ _ _ h => h) (Or.inl ⟨by rfl, ?_⟩) ?_ ?_
     rotate_left
     · intro w'
       go_simp
       with_reducible rfl
     rotate_left
     · simp only [Act.put, List.setIfInBounds_toArray, List.set_cons_zero, List.set_cons_succ, i64_w, i32_w]
       rfl
     refine pure_ (i := 9) (N := some 23) (v := ?_) (a' := ?_) #[true, true, true, true, true, true, true, true, true, true, true, true, false, false, false, false, false] rfl rfl (any_of HT_.out (by kernel_rfl)) (fun _ _ _ h => h) (Or.inl ⟨by rfl, ?_⟩) ?_ ?_
     rotate_left
     · intro w'
       go_simp
       with_reducible rfl
     rotate_left
     · simp only [Act.put, List.setIfInBounds_toArray, List.set_cons_zero, List.set_cons_succ, i64_w, i32_w]
       rfl
     refine one_ (i := 12) (N := some 26) #[true, true, true, true, true, true, true, true, true, true, true, true, true, false, false, false, false] rfl rfl (one_of HT_.out (by kernel_rfl)) (by decide) (fun K hK => ?_)
     refine goes_ Tryd.func89 (by kernel_rfl) rfl #[.int .i64 ((rd_T96 l0_0 x10_1).f2)] (by rfl) rfl rfl z7_5_ ?_
     with_reducible refine (strconv_Itoa.calls ((rd_T96 l0_0 x10_1).f2) t201 _ ?side1 A14.out).mono ?_
     (case side1 => exact Shelf.TabOk.below HT.out z7_0_)
     rintro e w24 ⟨rfl, hb⟩
     refine ⟨_, rfl, ?_⟩
     have n0_ := Aside0.mk (Kd.R_below z7_4_ hb)
     have n1_ := Aside0.mk (blk_below (g := gb193) (o := .cells #[.slice (some ad197) l0_0.length c0_0] 30 (0, 0)) z7_2_ hb)
     have n2_ := Aside0.mk (blk_below (g := gb198) (o := .cells #[.int .i64 ((rd_T96 l0_0 x10_1).f0), .int .i64 ((rd_T96 l0_0 x10_1).f1), .int .i64 ((rd_T96 l0_0 x10_1).f2)] 96 (0, 0)) z7_6_ hb)
     have n3_ := Aside0.mk (below_step z7_0_ hb)
     clear HO_3
     clear BK193
     clear BK198
     clear HB
     have HO_3 := n0_
     have BK193 := n1_
     have BK198 := n2_
     have HB := n3_
     clear n0_ n1_ n2_ n3_
     (try clear hb)
     (try clear hb2)
     (try clear hk)
     (try clear hi)
     refine hK.out _ _ ⟨(blk_cell BK198.out 0).trans rfl, (blk_cell BK198.out 1).trans rfl, (blk_cell BK198.out 2).trans rfl⟩ (fun hHeld => ?_)
     clear hK K
     refine norm_ (a' := ?_) ?_ ?_
     rotate_left
     · show Act.put _ (some 26) _ = _
       simp only [Act.put, List.setIfInBounds_toArray, List.set_cons_zero, List.set_cons_succ, i64_w, i32_w]
       rfl
     refine pure_ (i := 13) (N := some 27) (v := ?_) (a' := ?_) #[true, true, true, true, true, true, true, true, true, true, true, true, true, true, false, false, false] rfl rfl (any_of HT_.out (by kernel_rfl)) (fun _ _ _ h => h) (Or.inl ⟨by rfl, ?_⟩) ?_ ?_
     rotate_left
     · intro w'
       go_simp
       with_reducible rfl
     rotate_left
     · simp only [Act.put, List.setIfInBounds_toArray, List.set_cons_zero, List.set_cons_succ, i64_w, i32_w]
       rfl
     refine one_ (i := 14) (N := some 28) #[true, true, true, true, true, true, true, true, true, true, true, true, true, true, true, false, false] rfl rfl (one_of HT_.out (by kernel_rfl)) (by decide) (fun K hK => ?_)
     refine value_ (w1 := ?_) (v := ?_) (by rfl) rfl ?_ ?_
     rotate_left 2
     · go_simp
       constructor
       · rfl
       rfl
     refine hK.out _ _ ⟨(blk_cell (blk_alloc BK198.out _) 0).trans rfl, (blk_cell (blk_alloc BK198.out _) 1).trans rfl, (blk_cell (blk_alloc BK198.out _) 2).trans rfl⟩ (fun hHeld => ?_)
     clear hK K
     refine norm_ (a' := ?_) ?_ ?_
     rotate_left
     · show Act.put _ (some 28) _ = _
       simp only [Act.put, List.setIfInBounds_toArray, List.set_cons_zero, List.set_cons_succ, i64_w, i32_w]
       rfl
     refine one_ (i := 15) (N := some 29) #[true, true, true, true, true, true, true, true, true, true, true, true, true, true, true, true, false] rfl rfl (one_of HT_.out (by kernel_rfl)) (by decide) (fun K hK => ?_)
     refine Kd.R_append_step Kd.string (w0 := w) w.heap.size (by rfl) (.tmp 14) (.tmp 28) 37 9 (.string ⟨#[]⟩) 16 rfl Tryd.underlying37 info9 rfl (by decide) (by omega) u3 x3_1 ((((t199 ++ (⟨#[46]⟩ : ByteArray)) ++ t200) ++ (⟨#[46]⟩ : ByteArray)) ++ t201) [.string ((((t199 ++ (⟨#[46]⟩ : ByteArray)) ++ t200) ++ (⟨#[46]⟩ : ByteArray)) ++ t201)] (fun _ => True) (fun _ => False) rfl rfl ?aP (fun _ hk => hk.elim) ?aF ?aO ?aB ?aS ?aL ?_
     (case aP => exact rfl)
     (case aB => exact z7_0_)
     (case aF => exact (fun _ _ => trivial))
     (case aO => exact z7_4_)
     (case aS => exact (below_size z7_0_))
     (case aL => have := LMc16.out; omega)
     intro v203 w25 ho hb hg hat
     rw [← Ny202.out] at ho
     have n0_ := Aside0.mk (blk_grown (g := gb193) (o := .cells #[.slice (some ad197) l0_0.length c0_0] 30 (0, 0)) z7_2_ hg (Kd.R_ne HO_3.out BK193.out (by decide)))
     have n1_ := Aside0.mk (blk_grown (g := gb198) (o := .cells #[.int .i64 ((rd_T96 l0_0 x10_1).f0), .int .i64 ((rd_T96 l0_0 x10_1).f1), .int .i64 ((rd_T96 l0_0 x10_1).f2)] 96 (0, 0)) z7_6_ hg (Kd.R_ne HO_3.out BK198.out (by decide)))
     have n2_ := Aside0.mk (hb)
     have n3_ := Aside0.mk (ho)
     clear BK193
     clear BK198
     clear HB
     clear HO_3
     have BK193 := n0_
     have BK198 := n1_
     have HB := n2_
     have HO204 := n3_
     clear n0_ n1_ n2_ n3_
     clear ho hb hg hat
     refine hK.out _ _ ⟨(blk_cell BK198.out 0).trans rfl, (blk_cell BK198.out 1).trans rfl, (blk_cell BK198.out 2).trans rfl⟩ (fun hHeld => ?_)
     clear hK K
     refine norm_ (a' := ?_) ?_ ?_
     rotate_left
     · show Act.put _ (some 29) _ = _
       simp only [Act.put, List.setIfInBounds_toArray, List.set_cons_zero, List.set_cons_succ, i64_w, i32_w]
       rfl
     refine pure_ (i := 16) (N := some 3) (v := ?_) (a' := ?_) #[true, true, true, true, true, true, true, true, true, true, true, true, true, true, true, true, true] rfl rfl (any_of HT_.out (by kernel_rfl)) (fun _ _ _ h => h) (Or.inl ⟨by rfl, ?_⟩) ?_ ?_
     rotate_left
     · intro w'
       go_simp
       with_reducible rfl
     rotate_left
     · simp only [Act.put, List.setIfInBounds_toArray, List.set_cons_zero, List.set_cons_succ, i64_w, i32_w]
       rfl
     refine done_ (done_of HT_.out (by kernel_rfl)) ?_
     try go_wp2
     go_roundg k1
     case measure => have := HK1.out; omega
     case rel => exact ⟨(y202), (wrap64 (x10_1 + 1)), (by first | rfl | (simp; done) | (simp [*]; done)), H', ⟨by have := HK1.out; omega⟩, ⟨by (with_reducible repeat (first | apply Kd.R_alloc | apply Kd.R_drewN | apply Kd.R_drew)); exact HO204.out⟩, ⟨by (with_reducible repeat (first | refine blk_drewN ?_ _ | refine blk_drew ?_ | refine blk_alloc ?_ _)); exact BK193.out⟩, ⟨by repeat (first | (with_reducible first | exact HB.out | apply below_alloc | apply pw_below_drewN | apply below_drew1 | refine below_set ?_ GE193.out | refine below_set ?_ GE198.out) | exact HB.out)⟩⟩
   rw [if_neg c6] at H
   have c6b0 : decide (x10_1 < (l0_0.length : Int)) = false := decide_eq_false c6
   clear c6
   replace H := Option.bind_eq_some_iff.mp H
   obtain ⟨t205, A260, H⟩ := H
   have A26 := Aside0.mk A260
   clear A260
   obtain rfl := Option.some.inj H
   obtain ⟨Ao27, co27, eo27⟩ := Kd.R_slice HO_3.out
   subst eo27
   go_wp2_with (first | ((with_reducible refine gate_callee (f := 124) rfl ?_); refine goesL_ (some 32) rfl rfl Tryd.func124 (by kernel_rfl) rfl #[.slice Ao27 x3_1.length co27, .string (⟨#[44]⟩ : ByteArray)] rfl z7_5_ ?_; (with_reducible refine (strings_Join.calls _ _ x3_1 (⟨#[44]⟩ : ByteArray) t205 _ ?side1 ?side2 A26.out).mono ?_); (case side1 => repeat (first | exact (Kd.R_reads' HO_3.out).2.2 | (with_reducible refine Kd.C_alloc ?_ _) | (with_reducible refine Kd.C_drewN ?_ _) | (with_reducible refine Kd.C_drew ?_))); (case side2 => exact (Kd.R_reads' HO_3.out).2.1); rintro e w28 ⟨rfl, hb⟩; refine ⟨_, rfl, ?_⟩; have n0_ := Aside0.mk (Kd.R_below z7_4_ hb); have n1_ := Aside0.mk (blk_below (g := gb193) (o := .cells #[.slice A0_0 l0_0.length c0_0] 30 (0, 0)) z7_2_ hb); have n2_ := Aside0.mk (below_step z7_3_ hb); clear HO_3; clear BK193; clear HB; have HO_3 := n0_; have BK193 := n1_; have HB := n2_; clear n0_ n1_ n2_; (try clear hb); (try clear hb2); (try clear hk); (try clear hi)))
   go_ret
   exact ⟨by first | rfl | (simp [errW_none, errW_some] <;> rfl) | (simp [*, errW_none, errW_some] <;> rfl), by repeat (first | (with_reducible first | exact HB.out | apply below_alloc | apply pw_below_drewN | apply below_drew1 | refine below_set ?_ GE193.out) | exact HB.out)⟩

/-! ### strings_Split: function 117 -/
theorem strings_Split.reps (W : World) (base : Nat) (ok : Nat → Prop) (xs : List ByteArray) : Reps (Kd.string.M W base ok) 1 xs (xs.map Value.string) := by
 refine ⟨by simp, fun j p hj => ?_⟩
 obtain ⟨hl, hp⟩ := List.getElem?_eq_some_iff.1 hj
 have e : ((xs.map Value.string).drop (j * 1)).take 1 = [Value.string p] := by
  rw [Nat.mul_one, List.drop_eq_getElem_cons (by simpa using hl), List.take_succ_cons, List.take_zero, List.getElem_map, hp]
 rw [e]
 exact rfl
theorem strings_Split.row (W : World) (e : Nat) (xs : List ByteArray) (hm : xs.length ≤ 9223372036854775807) : Kd.R Kd.string e (W.alloc (.cells (xs.map Value.string).toArray e)) W.heap.size (fun _ => True) (.slice (some ⟨W.heap.size, 0, none⟩) xs.length xs.length) xs := by
 refine ⟨fun _ _ => trivial, xs.map Value.string, ?_, strings_Split.reps _ _ _ xs⟩
 have h2 := World.ownsRow_lit (base := W.heap.size) (e := e) (size := 1) W (xs.map Value.string).toArray xs.length (Nat.le_refl _) (by simpa [maxLen] using hm) (by simp)
 have h3 : (W.alloc (.cells (xs.map Value.string).toArray e)).ownsRow W.heap.size e 1 (.slice (some ⟨W.heap.size, 0, none⟩) xs.length xs.length) xs.length (xs.map Value.string) := by simpa using h2
 exact h3
def strings_Split.f (a0 a1 : ByteArray) : Option (List ByteArray) := if a0.size < 4294967281 then (if 1 ≤ a1.size then some (Lib.splitB a1 0 (Lib.countB a0 a1) a0) else none) else none
theorem strings_Split.calls (a0 a1 : ByteArray) (r : List ByteArray) (w : World) (hT : Shelf.TabOk w) (h : strings_Split.f a0 a1 = some r) :
 Calls Tryd.prog 117 #[.string a0, .string a1] w fun e w' => ∃ v0_ : Value, e = .returned (v0_) ∧ Kd.R Kd.string 9 w' w.heap.size (fun _ => True) v0_ r ∧ Below w.heap.size w w' := by
 unfold strings_Split.f at h
 by_cases h0 : a0.size < 4294967281
 rotate_left
 · exact none_ (if_neg h0) h
 rw [if_pos h0] at h
 by_cases h1 : 1 ≤ a1.size
 rotate_left
 · exact none_ (if_neg h1) h
 rw [if_pos h1] at h
 obtain rfl := Option.some.inj h
 have hle := Lib.countB_le a1 h1 a0.size a0 (Nat.le_refl _)
 have hlen := Lib.splitB_all a1 h1 0 _ a0 rfl
 refine (Shelf.Split a0 a1 w hT h0 h1).mono ?_
 rintro e w' ⟨rfl, rfl⟩
 refine ⟨_, rfl, ?_, below_alloc (Below.refl _ _) _⟩
 have hr := strings_Split.row w 9 (Lib.splitB a1 0 (Lib.countB a0 a1) a0) (by omega)
 rw [hlen] at hr
 exact hr

/-! ### impl_number: function 118 -/
-- behind 89 93
def impl_number.val (s : ByteArray) : Option Int := match Lib.atoiAll s.data.toList with
 | .ok v => some v
 | _ => none
def impl_number.f (a0 : ByteArray) (a1 : Int) : Option (Int × Bool) := if a0.size ≤ 1000000000 then (match impl_number.val a0 with
 | some v => (strconv_Itoa.f v).bind fun t => (if t.toList = a0.toList then (impl_within.f v 0 a1).bind fun b => (if b = true then some (v, true) else some (0, false)) else some (0, false))
 | none => some (0, false)) else none
set_option maxHeartbeats 8000000 in
set_option maxRecDepth 100000 in
theorem impl_number.calls (a0 : ByteArray) (a1 : Int) (r1 : Int) (r2 : Bool) (w : World) (hT : Shelf.TabOk w) (h : impl_number.f a0 a1 = some (r1, r2)) :
 Calls Tryd.prog 118 #[.string a0, .int .i64 a1] w fun e w' => e = .returned (.tuple #[.int .i64 r1, .bool r2]) ∧ Below w.heap.size w w' := by
 have HT := Aside0.mk hT
 unfold impl_number.f at h
 by_cases hz : a0.size ≤ 1000000000
 rotate_left
 · exact none_ (if_neg hz) h
 rw [if_pos hz] at h
 have HZ := Aside0.mk hz
 clear hT hz
 cases hv : impl_number.val a0 with
 | none =>
  rw [hv] at h
  simp only [Option.some.injEq, Prod.mk.injEq] at h
  obtain ⟨rfl, rfl⟩ := h
  have hn : ∀ v, Lib.atoiAll a0.data.toList ≠ .ok v := fun v e => by unfold impl_number.val at hv; rw [e] at hv; cases hv
  have HN := Aside0.mk hn
  clear hv hn
  go_enter Tryd.func118, Tryd.ntmps118
  go_wp2_with (first | (go_at_call 156; (with_reducible refine (Shelf.Atoi_bad a0 _ HT.out HZ.out HN.out).mono ?_); rintro e w6 ⟨v6, t6, p6, rfl, hb⟩; have HB := Aside0.mk hb; clear hb))
  go_ret2
  exact ⟨rfl, by repeat (first | exact HB.out | apply pw_below_drewN | apply below_drew1)⟩
 | some v =>
  rw [hv] at h
  dsimp only at h
  obtain ⟨t, ht, h⟩ := Option.bind_eq_some_iff.mp h
  have hok : Lib.atoiAll a0.data.toList = .ok v := by
   unfold impl_number.val at hv
   rcases hc : Lib.atoiAll a0.data.toList with u | _ | _
   · rw [hc] at hv; injection hv with hv; rw [hv]
   · rw [hc] at hv; cases hv
   rw [hc] at hv; cases hv
  have HOK := Aside0.mk hok
  have HI := Aside0.mk ht
  clear hv hok ht
  by_cases q : t.toList = a0.toList
  · rw [if_pos q] at h
    obtain ⟨b, hb0, h⟩ := Option.bind_eq_some_iff.mp h
    have HW := Aside0.mk hb0
    have q1 : (t.toList == a0.toList) = true := beq_iff_eq.mpr q
    have q2 : (t.toList != a0.toList) = false := bne_eq_false_iff_eq.mpr q
    clear q hb0
    cases b with
    | true =>
     rw [if_pos rfl] at h
     simp only [Option.some.injEq, Prod.mk.injEq] at h
     obtain ⟨rfl, rfl⟩ := h
     go_enter Tryd.func118, Tryd.ntmps118
     go_wp2_with (first | (go_at_call 156; (with_reducible refine (Shelf.Atoi_ok a0 _ HZ.out _ HOK.out).mono ?_); rintro e w6 ⟨rfl, hb⟩; have HB := Aside0.mk hb; clear hb) | (go_at_call 89; (with_reducible refine (strconv_Itoa.calls _ t _ (Shelf.TabOk.below HT.out HB.out) HI.out).mono ?_); rintro e w7 ⟨rfl, hb⟩; have n0_ := Aside0.mk (below_step HB.out hb); clear HB hb; have HB := n0_; clear n0_) | (go_at_call 93; (with_reducible refine (impl_within.calls _ 0 a1 true _ HW.out).mono ?_); rintro e w' ⟨rfl, ⟨nd, rfl⟩⟩))
     go_ret2
     exact ⟨rfl, by repeat (first | exact HB.out | apply pw_below_drewN | apply below_drew1)⟩
    | false =>
     rw [if_neg (by decide)] at h
     simp only [Option.some.injEq, Prod.mk.injEq] at h
     obtain ⟨rfl, rfl⟩ := h
     go_enter Tryd.func118, Tryd.ntmps118
     go_wp2_with (first | (go_at_call 156; (with_reducible refine (Shelf.Atoi_ok a0 _ HZ.out _ HOK.out).mono ?_); rintro e w6 ⟨rfl, hb⟩; have HB := Aside0.mk hb; clear hb) | (go_at_call 89; (with_reducible refine (strconv_Itoa.calls _ t _ (Shelf.TabOk.below HT.out HB.out) HI.out).mono ?_); rintro e w7 ⟨rfl, hb⟩; have n0_ := Aside0.mk (below_step HB.out hb); clear HB hb; have HB := n0_; clear n0_) | (go_at_call 93; (with_reducible refine (impl_within.calls _ 0 a1 false _ HW.out).mono ?_); rintro e w' ⟨rfl, ⟨nd, rfl⟩⟩))
     go_ret2
     exact ⟨rfl, by repeat (first | exact HB.out | apply pw_below_drewN | apply below_drew1)⟩
  rw [if_neg q] at h
  simp only [Option.some.injEq, Prod.mk.injEq] at h
  obtain ⟨rfl, rfl⟩ := h
  have q1 : (t.toList == a0.toList) = false := beq_eq_false_iff_ne.mpr q
  have q2 : (t.toList != a0.toList) = true := bne_iff_ne.mpr q
  clear q
  go_enter Tryd.func118, Tryd.ntmps118
  go_wp2_with (first | (go_at_call 156; (with_reducible refine (Shelf.Atoi_ok a0 _ HZ.out _ HOK.out).mono ?_); rintro e w6 ⟨rfl, hb⟩; have HB := Aside0.mk hb; clear hb) | (go_at_call 89; (with_reducible refine (strconv_Itoa.calls _ t _ (Shelf.TabOk.below HT.out HB.out) HI.out).mono ?_); rintro e w7 ⟨rfl, hb⟩; have n0_ := Aside0.mk (below_step HB.out hb); clear HB hb; have HB := n0_; clear n0_))
  go_ret2
  exact ⟨rfl, by repeat (first | exact HB.out | apply pw_below_drewN | apply below_drew1)⟩

/-! ### impl_ParsePuzzle: function 58 -/
-- behind 117 118 63 64
def impl_ParsePuzzle.arr (parts : List ByteArray) : Nat → Nat → List Int → Option (List Int)
 | 0, _, l => some l
 | c + 1, i, l => (impl_number.f (rdOf ByteArray.empty parts (i : Int)) 20).bind fun r => impl_ParsePuzzle.arr parts c (i + 1) (l.set i r.1)
def impl_ParsePuzzle.go (words : List ByteArray) : Nat → Nat → List S96 → Option (List S96)
 | 0, _, out => some out
 | c + 1, j, out => (strings_Split.f (rdOf ByteArray.empty words (j : Int)) (⟨#[46]⟩ : ByteArray)).bind fun parts => (impl_ParsePuzzle.arr parts (min parts.length 3) 0 [0, 0, 0]).bind fun l => impl_ParsePuzzle.go words c (j + 1) (out ++ [(⟨rd l 0, rd l 1, rd l 2⟩ : S96)])
def impl_ParsePuzzle.f (k : Nat) (a0 : ByteArray) : Option ((List (S96)) × Bool) := if a0.toList = [] then some ([], true) else (strings_Split.f a0 (⟨#[44]⟩ : ByteArray)).bind fun words => if words.length ≤ 5000000000 then (impl_ParsePuzzle.go words words.length 0 []).bind fun l => (impl_IsPuzzle.f k l).bind fun b => (if b = true then (impl_puzzleText.f k l).bind fun t => (if t.toList = a0.toList then some (l, true) else some ([], false)) else some ([], false)) else none
theorem impl_ParsePuzzle.mono : ∀ a0 k, LeO (impl_ParsePuzzle.f k a0) (impl_ParsePuzzle.f (k + 1) a0) := by
 intro a0 k
 unfold impl_ParsePuzzle.f
 exact LeO.ite (LeO.refl _) (LeO.bind (LeO.refl _) (fun _ => LeO.ite (LeO.bind (LeO.refl _) (fun _ => LeO.bind (impl_IsPuzzle.mono _ _) (fun _ => LeO.ite (LeO.bind (impl_puzzleText.mono _ _) (fun _ => LeO.refl _)) (LeO.refl _)))) (LeO.refl _)))
theorem impl_ParsePuzzle.succ_ (n : Nat) (h : n < 4611686018427387904) : Value.int .i64 (wrap64 ((n : Int) + 1)) = Value.int .i64 ((n + 1 : Nat) : Int) := by
 have : wrap64 ((n : Int) + 1) = ((n + 1 : Nat) : Int) := by simp [wrap64]; omega
 rw [this]
theorem impl_ParsePuzzle.set_ (l : List Int) (i : Nat) (v : Int) : (l.map (Value.int .i64)).toArray.setIfInBounds i (.int .i64 v) = ((l.set i v).map (Value.int .i64)).toArray := by
 simp [List.map_set]
theorem impl_ParsePuzzle.len_ (l : List Int) (i : Nat) (h : i < l.length) : (l.map (Value.int .i64)).toArray[i]? = some (.int .i64 (l.getD i 0)) := by
 simp [h]
set_option maxHeartbeats 16000000 in
set_option maxRecDepth 100000 in
theorem impl_ParsePuzzle.calls (k : Nat) (a0 : ByteArray) (r1 : List (S96)) (r2 : Bool) (w : World) (hT : Shelf.TabOk w) (h : impl_ParsePuzzle.f k a0 = some (r1, r2)) :
 Calls Tryd.prog 58 #[.string a0] w fun e w' => ∃ v0_ : Value, e = .returned (.tuple #[.agg #[v0_], .bool r2]) ∧ Kd.R k96 96 w' w.heap.size (fun _ => True) v0_ r1 ∧ Below w.heap.size w w' := by
 have hu30 := Tryd.underlying30
 have HT := Aside0.mk hT
 have HB := Aside0.mk (Below.refl w.heap.size w)
 have H0 := Aside0.mk h
 clear hT h
 go_enter Tryd.func58, Tryd.ntmps58
 go_upto_region 2 with (first | ((with_reducible refine gate_dst (N := 2) rfl ?_); refine box_event ?hg (N := 2) ?hd (cs := #[.slice none 0 0]) (t := 30) ?hr ?_; (case hd => rfl); (case hg => rfl); (case hr => first | (go_simp; done) | (go_simp; rfl)); intro gb2 hg w2 hbox hb; have n0_ := Aside0.mk (below_step HB.out hb); have BK2 := Aside0.mk hbox; have GE2 := Aside0.mk ((by rw [hg]; exact below_size HB.out : w.heap.size ≤ gb2)); clear HB; have HB := n0_; clear n0_ hb hbox hg) | ((with_reducible refine gate_dst (N := 4) rfl ?_); refine box_event ?hg (N := 4) ?hd (cs := #[.slice none 0 0]) (t := 30) ?hr ?_; (case hd => rfl); (case hg => rfl); (case hr => first | (go_simp; done) | (go_simp; rfl)); intro gb4 hg w4 hbox hb; have NB2_4 := Aside0.mk ((by rw [hg]; exact Nat.ne_of_lt (blk_lt BK2.out) : gb2 ≠ gb4)); have m0_ := Aside0.mk (blk_below BK2.out hb); clear BK2; have BK2 := m0_; clear m0_; have n0_ := Aside0.mk (below_step HB.out hb); have BK4 := Aside0.mk hbox; have GE4 := Aside0.mk ((by rw [hg]; exact below_size HB.out : w.heap.size ≤ gb4)); clear HB; have HB := n0_; clear n0_ hb hbox hg; have hcz4 : w4.cell? ⟨gb4, 0, none⟩ = some (.slice none 0 0) := (blk_cell BK4.out 0).trans rfl; have hfz4 := blk_frozen BK4.out 0))
 have n1_ := Aside0.mk (blk_far (p := ⟨gb4, 0, none⟩) BK2.out NB2_4.out (.slice none 0 0))
 have n2_ := Aside0.mk (blk_put BK4.out 0 (.slice none 0 0) rfl)
 have n3_ := Aside0.mk (below_set (g := gb4) (j := 0) (v := .slice none 0 0) HB.out GE4.out)
 clear hcz4 hfz4
 generalize w4.setCell ⟨gb4, 0, none⟩ (.slice none 0 0) = w5 at n1_ n2_ n3_ ⊢
 clear BK2 BK4 HB
 have BK2 := n1_
 have BK4 := n2_
 have HB := n3_
 clear n1_ n2_ n3_
 have h := H0.out
 clear H0
 unfold impl_ParsePuzzle.f at h
 by_cases q : a0.toList = []
 · rw [if_pos q] at h
   simp only [Option.some.injEq, Prod.mk.injEq] at h
   obtain ⟨rfl, rfl⟩ := h
   have q1 : (a0.toList == ([] : List UInt8)) = true := beq_iff_eq.mpr q
   clear q
   have hcz4 : w5.cell? ⟨gb4, 0, none⟩ = some (.slice none 0 0) := (blk_cell BK4.out 0).trans rfl
   have hcz2 : w5.cell? ⟨gb2, 0, none⟩ = some (.slice none 0 0) := (blk_cell BK2.out 0).trans rfl
   have hfz2 := blk_frozen BK2.out 0
   go_wp2
   refine bodyPost_ret (results_ct rfl _ _ gb2 30 #[.slice none 0 0] (0, 0) _ rfl z7_1_ Tryd.underlying30 rfl (by kernel_rfl)) rfl ?_
   exact ⟨_, by first | rfl | (simp [*]; done), Kd.R_nil _ _ _ _ _, by repeat (first | (with_reducible first | exact HB.out | apply below_alloc | apply pw_below_drewN | apply below_drew1 | refine below_set ?_ GE2.out) | exact HB.out)⟩
 rw [if_neg q] at h
 have q1 : (a0.toList == ([] : List UInt8)) = false := beq_eq_false_iff_ne.mpr q
 clear q
 obtain ⟨words, hws, h⟩ := Option.bind_eq_some_iff.mp h
 by_cases hwl : words.length ≤ 5000000000
 rotate_left
 · exact none_ (if_neg hwl) h
 rw [if_pos hwl] at h
 obtain ⟨L, hgo, h⟩ := Option.bind_eq_some_iff.mp h
 have HWS := Aside0.mk hws
 have HWL := Aside0.mk hwl
 have HGO := Aside0.mk (show impl_ParsePuzzle.go words (words.length - 0) 0 [] = some L from hgo)
 have HEND := Aside0.mk h
 clear hws hwl hgo h
 go_wp2_with (first | (go_at_call 117; (with_reducible refine (strings_Split.calls a0 (⟨#[44]⟩ : ByteArray) words _ (Shelf.TabOk.below HT.out HB.out) HWS.out).mono ?_); rintro e w6 ⟨v6, rfl, ho, hb⟩; have HOW := Aside0.mk (Kd.R_lower ho (below_size HB.out)); have n1_ := Aside0.mk (blk_below BK2.out hb); have n2_ := Aside0.mk (blk_below BK4.out hb); have n3_ := Aside0.mk (below_step HB.out hb); clear BK2 BK4 HB ho hb; have BK2 := n1_; have BK4 := n2_; have HB := n3_; clear n1_ n2_ n3_; obtain ⟨AW, cW, eW⟩ := Kd.R_slice HOW.out; subst eW))
 go_loopg [17] (words.length + 1) (fun kq v17 w' => ∃ (n : Nat) (out : List S96) (u : Value), v17 = .int .i64 (n : Int) ∧ Aside0 (n + kq = words.length + 1) ∧ Aside0 (out.length ≤ n) ∧ Aside0 (impl_ParsePuzzle.go words (words.length - n) n out = some L) ∧ Aside0 (Kd.R k96 96 w' w.heap.size (fun _ => True) u out) ∧ Aside0 (Kd.R Kd.string 9 w' w.heap.size (fun _ => True) (.slice AW words.length cW) words) ∧ Aside0 (w'.heap[gb2]? = some (.cells #[.slice none 0 0] 30 (0, 0))) ∧ Aside0 (w'.heap[gb4]? = some (.cells #[u] 30 (0, 0))) ∧ Aside0 (Below w.heap.size w w'))
 case atStart => exact ⟨0, [], .slice none 0 0, rfl, ⟨by omega⟩, ⟨Nat.le_refl _⟩, HGO, ⟨Kd.R_nil _ _ _ _ _⟩, HOW, BK2, BK4, HB⟩
 case round =>
  clear HGO BK2 BK4 HB HOW
  obtain ⟨n, out, u, rfl, HN, HL, HA, HO, HOW, BK2, BK4, HB⟩ := hrel
  by_cases c : n < words.length
  · have c1 : decide ((n : Int) < (words.length : Int)) = true := decide_eq_true (by omega)
    have c2 : decide (n < words.length) = true := decide_eq_true c
    have h := HA.out
    rw [show words.length - n = (words.length - (n + 1)) + 1 by omega] at h
    unfold impl_ParsePuzzle.go at h
    obtain ⟨T, hT⟩ : ∃ T, T = rdOf ByteArray.empty words (n : Int) := ⟨_, rfl⟩
    rw [← hT] at h
    obtain ⟨parts, hp, h⟩ := Option.bind_eq_some_iff.mp h
    obtain ⟨l, hl, h⟩ := Option.bind_eq_some_iff.mp h
    obtain ⟨ad, e1, hx⟩ := Kd.at_string (Kd.R_reads' HOW.out).2.2 (n : Int) (by omega) (by omega)
    cases e1
    rw [← hT] at hx
    simp only [Int.toNat_natCast] at hx
    have p1 : (0 ≤ (n : Int)) = True := eq_true (by omega)
    have q1 : ((n : Int) < (words.length : Int)) = True := eq_true (by omega)
    obtain ⟨m, hm⟩ : ∃ m, m = min parts.length 3 := ⟨_, rfl⟩
    rw [← hm] at hl
    have HM := Aside0.mk hm
    have HPA := Aside0.mk hp
    have HAR := Aside0.mk (show impl_ParsePuzzle.arr parts (m - 0) 0 [0, 0, 0] = some l from hl)
    have HA2 := Aside0.mk h
    have HC := Aside0.mk c
    clear HA h hT hp hl hm c
    go_upto_region 8 with (first | ((with_reducible refine gate_dst (N := 7) rfl ?_); refine box_event ?hg (N := 7) ?hd (cs := #[.int .i64 0, .int .i64 0, .int .i64 0]) (t := 101) ?hr ?_; (case hd => rfl); (case hg => rfl); (case hr => first | (go_simp; done) | (go_simp; rfl)); intro gb7 hg w7 hbox hb; have m0_ := Aside0.mk (Kd.R_below HO.out hb); have m1_ := Aside0.mk (Kd.R_below HOW.out hb); have m2_ := Aside0.mk (blk_below BK2.out hb); have m4_ := Aside0.mk (blk_below BK4.out hb); have NB2_7 := Aside0.mk ((by rw [hg]; exact Nat.ne_of_lt (blk_lt BK2.out) : gb2 ≠ gb7)); have NB4_7 := Aside0.mk ((by rw [hg]; exact Nat.ne_of_lt (blk_lt BK4.out) : gb4 ≠ gb7)); clear HO HOW BK2 BK4; have HO := m0_; have HOW := m1_; have BK2 := m2_; have BK4 := m4_; clear m0_ m1_ m2_ m4_; have n0_ := Aside0.mk (below_step HB.out hb); have BK7 := Aside0.mk hbox; have GE7 := Aside0.mk ((by rw [hg]; exact below_size HB.out : w.heap.size ≤ gb7)); clear HB; have HB := n0_; clear n0_ hb hbox hg; have hcz0 : w7.cell? ⟨gb7, 0, none⟩ = some (.int .i64 0) := (blk_cell BK7.out 0).trans rfl; have hcz1 : w7.cell? ⟨gb7, 1, none⟩ = some (.int .i64 0) := (blk_cell BK7.out 1).trans rfl; have hcz2 : w7.cell? ⟨gb7, 2, none⟩ = some (.int .i64 0) := (blk_cell BK7.out 2).trans rfl; have hfz0 := blk_frozen BK7.out 0; have hfz1 := blk_frozen BK7.out 1; have hfz2 := blk_frozen BK7.out 2))
    have s0_ := blk_put BK7.out 0 (.int .i64 0) rfl
    have s1_ := blk_put s0_ 1 (.int .i64 0) rfl
    have s2_ := blk_put s1_ 2 (.int .i64 0) rfl
    have n0_ := Aside0.mk (Kd.R_set (Kd.R_set (Kd.R_set HO.out BK7.out (by decide) 0 (.int .i64 0)) s0_ (by decide) 1 (.int .i64 0)) s1_ (by decide) 2 (.int .i64 0))
    have n1_ := Aside0.mk (Kd.R_set (Kd.R_set (Kd.R_set HOW.out BK7.out (by decide) 0 (.int .i64 0)) s0_ (by decide) 1 (.int .i64 0)) s1_ (by decide) 2 (.int .i64 0))
    have n2_ := Aside0.mk (blk_far (p := ⟨gb7, 2, none⟩) (blk_far (p := ⟨gb7, 1, none⟩) (blk_far (p := ⟨gb7, 0, none⟩) BK2.out NB2_7.out (.int .i64 0)) NB2_7.out (.int .i64 0)) NB2_7.out (.int .i64 0))
    have n3_ := Aside0.mk (blk_far (p := ⟨gb7, 2, none⟩) (blk_far (p := ⟨gb7, 1, none⟩) (blk_far (p := ⟨gb7, 0, none⟩) BK4.out NB4_7.out (.int .i64 0)) NB4_7.out (.int .i64 0)) NB4_7.out (.int .i64 0))
    have n4_ := Aside0.mk (below_set (g := gb7) (j := 2) (v := .int .i64 0) (below_set (g := gb7) (j := 1) (v := .int .i64 0) (below_set (g := gb7) (j := 0) (v := .int .i64 0) HB.out GE7.out) GE7.out) GE7.out)
    have n5_ := Aside0.mk (show (((w7.setCell ⟨gb7, 0, none⟩ (.int .i64 0)).setCell ⟨gb7, 1, none⟩ (.int .i64 0)).setCell ⟨gb7, 2, none⟩ (.int .i64 0)).heap[gb7]? = some (.cells (([0, 0, 0] : List Int).map (Value.int .i64)).toArray 101 (0, 0)) from s2_)
    clear s0_ s1_ s2_ hcz0 hcz1 hcz2 hfz0 hfz1 hfz2 hx HO HOW BK2 BK4 BK7 HB
    generalize ((w7.setCell ⟨gb7, 0, none⟩ (.int .i64 0)).setCell ⟨gb7, 1, none⟩ (.int .i64 0)).setCell ⟨gb7, 2, none⟩ (.int .i64 0) = w8 at n0_ n1_ n2_ n3_ n4_ n5_ ⊢
    have HO := n0_
    have HOW := n1_
    have BK2 := n2_
    have BK4 := n3_
    have HB := n4_
    have BK7 := n5_
    clear n0_ n1_ n2_ n3_ n4_ n5_
    have hmn : min (parts.length : Int) 3 = (m : Int) := by rw [HM.out]; omega
    have hmx : mn (parts.length : Int) 3 = (m : Int) := by rw [HM.out]; unfold mn; first | omega | (split <;> omega)
    go_wp2_with (first | (go_at_call 117; (with_reducible refine (strings_Split.calls T (⟨#[46]⟩ : ByteArray) parts _ (Shelf.TabOk.below HT.out HB.out) HPA.out).mono ?_); rintro e w9 ⟨v9, rfl, ho, hb⟩; have HOP := Aside0.mk (Kd.R_lower ho (below_size HB.out)); have n0_ := Aside0.mk (Kd.R_below HO.out hb); have n1_ := Aside0.mk (Kd.R_below HOW.out hb); have n2_ := Aside0.mk (blk_below BK2.out hb); have n3_ := Aside0.mk (blk_below BK4.out hb); have n4_ := Aside0.mk (below_step HB.out hb); have n5_ := Aside0.mk (blk_below BK7.out hb); clear HO HOW BK2 BK4 BK7 HB ho hb; have HO := n0_; have HOW := n1_; have BK2 := n2_; have BK4 := n3_; have HB := n4_; have BK7 := n5_; clear n0_ n1_ n2_ n3_ n4_ n5_; obtain ⟨AP, cP, eP⟩ := Kd.R_slice HOP.out; subst eP))
    all_goals (have HS := Aside0.mk h; clear h)
    all_goals go_loopg [27] (m + 1) (fun kq v27 w' => ∃ (i : Nat) (lc : List Int), v27 = .int .i64 (i : Int) ∧ Aside0 (i + kq = m + 1) ∧ Aside0 (lc.length = 3) ∧ Aside0 (impl_ParsePuzzle.arr parts (m - i) i lc = some l) ∧ Aside0 (Kd.R k96 96 w' w.heap.size (fun _ => True) u out) ∧ Aside0 (Kd.R Kd.string 9 w' w.heap.size (fun _ => True) (.slice (some ad) words.length cW) words) ∧ Aside0 (Kd.R Kd.string 9 w' w.heap.size (fun _ => True) (.slice AP parts.length cP) parts) ∧ Aside0 (w'.heap[gb2]? = some (.cells #[.slice none 0 0] 30 (0, 0))) ∧ Aside0 (w'.heap[gb4]? = some (.cells #[u] 30 (0, 0))) ∧ Aside0 (w'.heap[gb7]? = some (.cells (lc.map (Value.int .i64)).toArray 101 (0, 0))) ∧ Aside0 (Below w.heap.size w w'))
    all_goals try (exact ⟨0, [0, 0, 0], rfl, ⟨by omega⟩, ⟨rfl⟩, HAR, HO, HOW, HOP, BK2, BK4, BK7, HB⟩)
    all_goals (
     clear HAR HO HOW HOP BK2 BK4 BK7 HB
     obtain ⟨i, lc, rfl, HI, HLC, HAI, HO, HOW, HOP, BK2, BK4, BK7, HB⟩ := hrel
     by_cases c : i < m
     · have hmp : m ≤ parts.length := by rw [HM.out]; omega
       have hm3 : m ≤ 3 := by rw [HM.out]; omega
       have c1 : decide ((i : Int) < (parts.length : Int)) = true := decide_eq_true (by omega)
       have c2 : decide (i < parts.length) = true := decide_eq_true (by omega)
       have c3 : decide ((i : Int) < 3) = true := decide_eq_true (by omega)
       have h := HAI.out
       rw [show m - i = (m - (i + 1)) + 1 by omega] at h
       unfold impl_ParsePuzzle.arr at h
       obtain ⟨P, hP⟩ : ∃ P, P = rdOf ByteArray.empty parts (i : Int) := ⟨_, rfl⟩
       rw [← hP] at h
       obtain ⟨⟨v, ok⟩, hnum, h⟩ := Option.bind_eq_some_iff.mp h
       obtain ⟨ap, e2, hx⟩ := Kd.at_string (Kd.R_reads' HOP.out).2.2 (i : Int) (by omega) (by omega)
       cases e2
       rw [← hP] at hx
       simp only [Int.toNat_natCast] at hx
       have p1 : (0 ≤ (i : Int)) = True := eq_true (by omega)
       have q1 : ((i : Int) < (parts.length : Int)) = True := eq_true (by omega)
       have q2 : ((i : Int) < 3) = True := eq_true (by omega)
       have q3 : (i < 3) = True := eq_true (by omega)
       have HIL := Aside0.mk (by have := HLC.out; omega : i < lc.length)
       have HNUM := Aside0.mk hnum
       have HAJ := Aside0.mk (show impl_ParsePuzzle.arr parts (m - (i + 1)) (i + 1) (lc.set i v) = some l from h)
       have HC2 := Aside0.mk (show i < m ∧ m ≤ 3 from ⟨c, hm3⟩)
       clear HAI h hnum hP c hmp hm3
       go_wp2_with (first | (go_at_call 118; (with_reducible refine (impl_number.calls P 20 v ok _ (Shelf.TabOk.below HT.out HB.out) HNUM.out).mono ?_); rintro e w10 ⟨rfl, hb⟩; have n0_ := Aside0.mk (Kd.R_below HO.out hb); have n1_ := Aside0.mk (Kd.R_below HOW.out hb); have n2_ := Aside0.mk (Kd.R_below HOP.out hb); have n3_ := Aside0.mk (blk_below BK2.out hb); have n4_ := Aside0.mk (blk_below BK4.out hb); have n5_ := Aside0.mk (blk_below BK7.out hb); have n6_ := Aside0.mk (below_step HB.out hb); clear HO HOW HOP BK2 BK4 BK7 HB hb; have HO := n0_; have HOW := n1_; have HOP := n2_; have BK2 := n3_; have BK4 := n4_; have BK7 := n5_; have HB := n6_; clear n0_ n1_ n2_ n3_ n4_ n5_ n6_; have hczi : w10.cell? ⟨gb7, i, none⟩ = some (.int .i64 (lc.getD i 0)) := (blk_cell BK7.out i).trans (impl_ParsePuzzle.len_ lc i HIL.out); have hfzi := blk_frozen BK7.out i))
       go_roundg (m - i)
       case measure => have := HI.out; have := HC2.out.1; omega
       case rel => exact ⟨i + 1, lc.set i v, impl_ParsePuzzle.succ_ i (by have := HC2.out; omega), ⟨by have := HC2.out.1; omega⟩, ⟨by rw [List.length_set]; exact HLC.out⟩, HAJ, ⟨Kd.R_mono (Kd.R_far (p := ⟨gb7, i, none⟩) (Kd.R_types HO.out BK7.out (by decide)) (fun _ hk => hk.2) _) (fun _ hk => trivial)⟩, ⟨Kd.R_mono (Kd.R_far (p := ⟨gb7, i, none⟩) (Kd.R_types HOW.out BK7.out (by decide)) (fun _ hk => hk.2) _) (fun _ hk => trivial)⟩, ⟨Kd.R_mono (Kd.R_far (p := ⟨gb7, i, none⟩) (Kd.R_types HOP.out BK7.out (by decide)) (fun _ hk => hk.2) _) (fun _ hk => trivial)⟩, ⟨blk_far BK2.out NB2_7.out _⟩, ⟨blk_far BK4.out NB4_7.out _⟩, ⟨by rw [← impl_ParsePuzzle.set_]; exact blk_put BK7.out i _ rfl⟩, ⟨below_set HB.out GE7.out⟩⟩
     first | (have c2 : decide ((i : Int) < (parts.length : Int)) = false := decide_eq_false (by have := HM.out; have := HS.out; omega); have c4 : decide (i < parts.length) = false := decide_eq_false (by have := HM.out; have := HS.out; omega)) | (have c3 : decide ((i : Int) < 3) = false := decide_eq_false (by have := HM.out; have := HS.out; omega); have c4 : decide (i < 3) = false := decide_eq_false (by have := HM.out; have := HS.out; omega))
     have hr : lc = l := by
      have h := HAI.out
      rw [show m - i = 0 by omega] at h
      exact Option.some.inj h
     subst hr
     obtain ⟨x0, x1, x2, rfl⟩ : ∃ x0 x1 x2, lc = [x0, x1, x2] := by
      have := HLC.out
      match lc, this with
      | [a, b, c], _ => exact ⟨a, b, c, rfl⟩
     have HA3 := Aside0.mk (show impl_ParsePuzzle.go words (words.length - (n + 1)) (n + 1) (out ++ [(⟨x0, x1, x2⟩ : S96)]) = some L from HA2.out)
     have hcz0 : wr.cell? ⟨gb7, 0, none⟩ = some (.int .i64 x0) := (blk_cell BK7.out 0).trans rfl
     have hcz1 : wr.cell? ⟨gb7, 1, none⟩ = some (.int .i64 x1) := (blk_cell BK7.out 1).trans rfl
     have hcz2 : wr.cell? ⟨gb7, 2, none⟩ = some (.int .i64 x2) := (blk_cell BK7.out 2).trans rfl
     have hcz4 : wr.cell? ⟨gb4, 0, none⟩ = some u := (blk_cell BK4.out 0).trans rfl
     clear HAI HA2 c hmn hmx
     go_wp2_with (first | ((with_reducible refine gate_builtin (b := .append) (xs := #[.tmp 42, .tmp 50]) rfl ?_); at_builtin; refine Kd.R_append k96 (w0 := w) w.heap.size rfl (.tmp 42) (.tmp 50) 28 96 (.agg #[(.int .i64 0), (.int .i64 0), (.int .i64 0)]) 24 rfl Tryd.underlying28 info96 rfl (by decide) (by omega) u out (⟨x0, x1, x2⟩ : S96) [.int .i64 x0, .int .i64 x1, .int .i64 x2] (fun _ => True) (fun _ => False) rfl rfl ?aP (fun _ hk => hk.elim) ?aF ?aO ?aB ?aS ?aL ?_; (case aP => exact k96_mkM _ _ _ (⟨x0, x1, x2⟩ : S96)); (case aF => exact fun _ _ => trivial); (case aO => exact HO.out); (case aB => exact HB.out); (case aS => exact HB.out.size); (case aL => have := HL.out; have := HC.out; have := HWL.out; omega); intro v1 w11 ho hb hg hat; obtain ⟨Av, cv, rfl⟩ := Kd.R_slice ho; have e_ : (out ++ [(⟨x0, x1, x2⟩ : S96)]).length = out.length + 1 := (by simp); rw [e_] at ho ⊢; clear e_; have HO3 := Aside0.mk ho; have n1_ := Aside0.mk (Kd.R_over HOW.out HO.out (by decide) hg); have n2_ := Aside0.mk (blk_grown BK2.out hg (Kd.R_ne HO.out BK2.out (by decide))); have n3_ := Aside0.mk (blk_grown BK4.out hg (Kd.R_ne HO.out BK4.out (by decide))); have n4_ := Aside0.mk hb; clear HO HOW BK2 BK4 HB ho hb hg hat hcz0 hcz1 hcz2 hcz4; have HO := HO3; have HOW := n1_; have BK2 := n2_; have BK4 := n3_; have HB := n4_; clear HO3 n1_ n2_ n3_ n4_; have hcz4 : w11.cell? ⟨gb4, 0, none⟩ = some u := (blk_cell BK4.out 0).trans rfl; have hfz4 := blk_frozen BK4.out 0))
     go_roundg (words.length - n)
     case measure => have := HN.out; have := HC.out; omega
     case rel => exact ⟨n + 1, out ++ [(⟨x0, x1, x2⟩ : S96)], _, impl_ParsePuzzle.succ_ n (by have := HC.out; have := HWL.out; omega), ⟨by have := HC.out; omega⟩, ⟨by rw [List.length_append]; have := HL.out; simp; omega⟩, HA3, ⟨Kd.R_mono (Kd.R_far (p := ⟨gb4, 0, none⟩) (Kd.R_types HO.out BK4.out (by decide)) (fun _ hk => hk.2) _) (fun _ hk => trivial)⟩, ⟨Kd.R_mono (Kd.R_far (p := ⟨gb4, 0, none⟩) (Kd.R_types HOW.out BK4.out (by decide)) (fun _ hk => hk.2) _) (fun _ hk => trivial)⟩, ⟨blk_far BK2.out NB2_4.out _⟩, ⟨blk_put BK4.out 0 _ rfl⟩, ⟨below_set HB.out GE4.out⟩⟩)
  have c1 : decide ((n : Int) < (words.length : Int)) = false := decide_eq_false (by omega)
  have c2 : decide (n < words.length) = false := decide_eq_false c
  have hr : out = L := by
   have h := HA.out
   rw [show words.length - n = 0 by omega] at h
   exact Option.some.inj h
  subst hr
  have h := HEND.out
  obtain ⟨b, hb0, h⟩ := Option.bind_eq_some_iff.mp h
  have HIP := Aside0.mk hb0
  obtain ⟨Ao, co, eo⟩ := Kd.R_slice HO.out
  subst eo
  have hcz4 : wr.cell? ⟨gb4, 0, none⟩ = some (.slice Ao out.length co) := (blk_cell BK4.out 0).trans rfl
  clear hb0 c HA HEND
  cases b with
  | false =>
   rw [if_neg (by decide)] at h
   simp only [Option.some.injEq, Prod.mk.injEq] at h
   obtain ⟨rfl, rfl⟩ := h
   go_wp2_with (first | (go_at_call 63; (with_reducible refine (impl_IsPuzzle.calls k Ao co out false _ (Kd.R_reads' HO.out).2.2 (Kd.R_reads' HO.out).2.1 HIP.out).mono ?_); rintro e w8 ⟨rfl, hb⟩; have n0_ := Aside0.mk (Kd.R_below HO.out hb); have n1_ := Aside0.mk (blk_below BK2.out hb); have n2_ := Aside0.mk (blk_below BK4.out hb); have n3_ := Aside0.mk (below_step HB.out hb); clear HO BK2 BK4 HB hb hcz4; have HO := n0_; have BK2 := n1_; have BK4 := n2_; have HB := n3_; clear n0_ n1_ n2_ n3_; have hcz4 : w8.cell? ⟨gb4, 0, none⟩ = some (.slice Ao out.length co) := (blk_cell BK4.out 0).trans rfl; have hcz2 : w8.cell? ⟨gb2, 0, none⟩ = some (.slice none 0 0) := (blk_cell BK2.out 0).trans rfl; have hfz2 := blk_frozen BK2.out 0))
   refine bodyPost_ret (results_ct rfl _ _ gb2 30 #[.slice none 0 0] (0, 0) _ rfl z7_1_ Tryd.underlying30 rfl (by kernel_rfl)) rfl ?_
   exact ⟨_, by first | rfl | (simp [*]; done), Kd.R_nil _ _ _ _ _, by repeat (first | (with_reducible first | exact HB.out | apply below_alloc | apply pw_below_drewN | apply below_drew1 | refine below_set ?_ GE2.out) | exact HB.out)⟩
  | true =>
   rw [if_pos rfl] at h
   obtain ⟨t, ht, h⟩ := Option.bind_eq_some_iff.mp h
   have HPT := Aside0.mk ht
   clear ht
   by_cases q : t.toList = a0.toList
   · rw [if_pos q] at h
     simp only [Option.some.injEq, Prod.mk.injEq] at h
     obtain ⟨rfl, rfl⟩ := h
     have q2 : (t.toList == a0.toList) = true := beq_iff_eq.mpr q
     have q3 : (t.toList != a0.toList) = false := bne_eq_false_iff_eq.mpr q
     clear q
     go_wp2_with (first | (go_at_call 63; (with_reducible refine (impl_IsPuzzle.calls k Ao co out true _ (Kd.R_reads' HO.out).2.2 (Kd.R_reads' HO.out).2.1 HIP.out).mono ?_); rintro e w8 ⟨rfl, hb⟩; have n0_ := Aside0.mk (Kd.R_below HO.out hb); have n1_ := Aside0.mk (blk_below BK2.out hb); have n2_ := Aside0.mk (blk_below BK4.out hb); have n3_ := Aside0.mk (below_step HB.out hb); clear HO BK2 BK4 HB hb hcz4; have HO := n0_; have BK2 := n1_; have BK4 := n2_; have HB := n3_; clear n0_ n1_ n2_ n3_; have hcz4 : w8.cell? ⟨gb4, 0, none⟩ = some (.slice Ao out.length co) := (blk_cell BK4.out 0).trans rfl; have hcz2 : w8.cell? ⟨gb2, 0, none⟩ = some (.slice none 0 0) := (blk_cell BK2.out 0).trans rfl; have hfz2 := blk_frozen BK2.out 0) | (go_at_call 64; (with_reducible refine (impl_puzzleText.calls k Ao co out t _ (Shelf.TabOk.below HT.out HB.out) (Kd.R_reads' HO.out).2.2 (Kd.R_reads' HO.out).2.1 HPT.out).mono ?_); rintro e w9 ⟨rfl, hb⟩; have n0_ := Aside0.mk (Kd.R_below HO.out hb); have n1_ := Aside0.mk (blk_below BK2.out hb); have n2_ := Aside0.mk (blk_below BK4.out hb); have n3_ := Aside0.mk (below_step HB.out hb); clear HO BK2 BK4 HB hb hcz4 hcz2 hfz2; have HO := n0_; have BK2 := n1_; have BK4 := n2_; have HB := n3_; clear n0_ n1_ n2_ n3_; have hcz4 : w9.cell? ⟨gb4, 0, none⟩ = some (.slice Ao out.length co) := (blk_cell BK4.out 0).trans rfl; have hcz2 : w9.cell? ⟨gb2, 0, none⟩ = some (.slice none 0 0) := (blk_cell BK2.out 0).trans rfl; have hfz2 := blk_frozen BK2.out 0))
     refine bodyPost_ret (results_ct rfl _ _ gb2 30 #[.slice Ao out.length co] (0, 0) _ rfl z7_1_ Tryd.underlying30 rfl (by kernel_rfl)) rfl ?_
     exact ⟨_, by first | rfl | (simp [*]; done), Kd.R_mono (Kd.R_far (p := ⟨gb2, 0, none⟩) (Kd.R_types HO.out BK2.out (by decide)) (fun _ hk => hk.2) _) (fun _ hk => trivial), below_set HB.out GE2.out⟩
   rw [if_neg q] at h
   simp only [Option.some.injEq, Prod.mk.injEq] at h
   obtain ⟨rfl, rfl⟩ := h
   have q2 : (t.toList == a0.toList) = false := beq_eq_false_iff_ne.mpr q
   have q3 : (t.toList != a0.toList) = true := bne_iff_ne.mpr q
   clear q
   go_wp2_with (first | (go_at_call 63; (with_reducible refine (impl_IsPuzzle.calls k Ao co out true _ (Kd.R_reads' HO.out).2.2 (Kd.R_reads' HO.out).2.1 HIP.out).mono ?_); rintro e w8 ⟨rfl, hb⟩; have n0_ := Aside0.mk (Kd.R_below HO.out hb); have n1_ := Aside0.mk (blk_below BK2.out hb); have n2_ := Aside0.mk (blk_below BK4.out hb); have n3_ := Aside0.mk (below_step HB.out hb); clear HO BK2 BK4 HB hb hcz4; have HO := n0_; have BK2 := n1_; have BK4 := n2_; have HB := n3_; clear n0_ n1_ n2_ n3_; have hcz4 : w8.cell? ⟨gb4, 0, none⟩ = some (.slice Ao out.length co) := (blk_cell BK4.out 0).trans rfl; have hcz2 : w8.cell? ⟨gb2, 0, none⟩ = some (.slice none 0 0) := (blk_cell BK2.out 0).trans rfl; have hfz2 := blk_frozen BK2.out 0) | (go_at_call 64; (with_reducible refine (impl_puzzleText.calls k Ao co out t _ (Shelf.TabOk.below HT.out HB.out) (Kd.R_reads' HO.out).2.2 (Kd.R_reads' HO.out).2.1 HPT.out).mono ?_); rintro e w9 ⟨rfl, hb⟩; have n0_ := Aside0.mk (Kd.R_below HO.out hb); have n1_ := Aside0.mk (blk_below BK2.out hb); have n2_ := Aside0.mk (blk_below BK4.out hb); have n3_ := Aside0.mk (below_step HB.out hb); clear HO BK2 BK4 HB hb hcz4 hcz2 hfz2; have HO := n0_; have BK2 := n1_; have BK4 := n2_; have HB := n3_; clear n0_ n1_ n2_ n3_; have hcz4 : w9.cell? ⟨gb4, 0, none⟩ = some (.slice Ao out.length co) := (blk_cell BK4.out 0).trans rfl; have hcz2 : w9.cell? ⟨gb2, 0, none⟩ = some (.slice none 0 0) := (blk_cell BK2.out 0).trans rfl; have hfz2 := blk_frozen BK2.out 0))
   refine bodyPost_ret (results_ct rfl _ _ gb2 30 #[.slice none 0 0] (0, 0) _ rfl z7_1_ Tryd.underlying30 rfl (by kernel_rfl)) rfl ?_
   exact ⟨_, by first | rfl | (simp [*]; done), Kd.R_nil _ _ _ _ _, by repeat (first | (with_reducible first | exact HB.out | apply below_alloc | apply pw_below_drewN | apply below_drew1 | refine below_set ?_ GE2.out) | exact HB.out)⟩

end Go.Proofs.YtjhmocngcnnfdaaDoor.PFnExactParsePuzzle

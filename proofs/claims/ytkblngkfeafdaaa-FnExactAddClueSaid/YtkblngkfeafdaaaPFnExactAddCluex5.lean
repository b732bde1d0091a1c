-- Laid by this session's program gprint.py over the kit's print.
import Derived.Test.YtkblngkfeafdaaaPFnExactAddCluex0
import Derived.Test.YtkblngkfeafdaaaPFnExactAddCluex1
import Derived.Test.YtkblngkfeafdaaaPFnExactAddCluex2
import Derived.Test.YtkblngkfeafdaaaPFnExactAddCluex3
import Derived.Test.YtkblngkfeafdaaaPFnExactAddCluex4
namespace Go.Proofs.Ytkblngkfeafdaaa.PFnExactAddClue
open Go.RowKit Go.Proofs.YtkblngkfeafdaaaW.PrintWords Go.Proofs.YtkblngkfeafdaaaW.PrintLast Go.Proofs.YtkblngkfeafdaaaW.PrintMore
attribute [local go_sem] max2_int min2_int max_two min_two max_three min_three max_four min_four   -- for this text's walks alone
set_option linter.unusedVariables false
set_option linter.unusedSimpArgs false
theorem z5_0_ {p : Prop} (h : p := by (with_reducible repeat (first | refine blk_drewN ?_ _ | refine blk_drew ?_ | refine blk_alloc ?_ _)); exact BK194.out) : p := h
theorem z5_1_ {p : Prop} (h : p := by (with_reducible repeat (first | refine blk_drewN ?_ _ | refine blk_drew ?_ | refine blk_alloc ?_ _)); exact BK195.out) : p := h
theorem z5_2_ {p : Prop} (h : p := by repeat (first | (with_reducible first | exact HB.out | apply below_alloc | apply pw_below_drewN | apply below_drew1 | refine below_set ?_ GE194.out | refine below_set ?_ GE195.out | refine below_set ?_ GE207.out | refine below_set ?_ GE211.out | refine below_set ?_ GE219.out) | exact HB.out)) : p := h
theorem z5_3_ {p : Prop} (h : p := by (with_reducible repeat (first | refine blk_drewN ?_ _ | refine blk_drew ?_ | refine blk_alloc ?_ _)); exact BK207.out) : p := h
theorem z5_4_ {p : Prop} (h : p := by (with_reducible repeat (first | refine blk_drewN ?_ _ | refine blk_drew ?_ | refine blk_alloc ?_ _)); exact BK211.out) : p := h
theorem z5_5_ {p : Prop} (h : p := by (with_reducible repeat (first | apply Kd.R_alloc | apply Kd.R_drewN | apply Kd.R_drew)); exact HO199.out) : p := h
theorem z5_6_ {p : Prop} (h : p := by repeat (first | (with_reducible first | exact HB.out | apply below_alloc | apply pw_below_drewN | apply below_drew1 | refine below_set ?_ GE194.out | refine below_set ?_ GE195.out | refine below_set ?_ GE207.out | refine below_set ?_ GE211.out | refine below_set ?_ GE219.out | refine below_set ?_ GE243.out) | exact HB.out)) : p := h
theorem z5_7_ {p : Prop} (h : p := by repeat (first | (with_reducible first | exact HB.out | apply below_alloc | apply pw_below_drewN | apply below_drew1 | refine below_set ?_ GE194.out | refine below_set ?_ GE195.out | refine below_set ?_ GE207.out) | exact HB.out)) : p := h
theorem z5_8_ {p : Prop} (h : p := by (with_reducible repeat (first | refine blk_drewN ?_ _ | refine blk_drew ?_ | refine blk_alloc ?_ _)); exact BK219.out) : p := h
theorem z5_9_ {p : Prop} (h : p := by (try simp only [List.map_toArray, List.map_cons, List.map_nil]); first | done | rfl | (simp only [List.length_drop, List.length_take]; rfl)) : p := h
theorem z5_10_ {p : Prop} (h : p := by (with_reducible repeat (first | apply Kd.R_alloc | apply Kd.R_drewN | apply Kd.R_drew)); exact HO205.out) : p := h
theorem z5_11_ {p : Prop} (h : p := by (with_reducible repeat (first | apply Kd.R_alloc | apply Kd.R_drewN | apply Kd.R_drew)); exact HO210.out) : p := h
theorem z5_12_ {p : Prop} (h : p := by repeat (first | (with_reducible first | exact HB.out | apply below_alloc | apply pw_below_drewN | apply below_drew1 | refine below_set ?_ GE194.out | refine below_set ?_ GE195.out) | exact HB.out)) : p := h
theorem z5_13_ {p : Prop} (h : p := by repeat (first | (with_reducible first | exact HB.out | apply below_alloc | apply pw_below_drewN | apply below_drew1 | refine below_set ?_ GE194.out | refine below_set ?_ GE195.out | refine below_set ?_ GE207.out | refine below_set ?_ GE211.out) | exact HB.out)) : p := h
theorem z5_14_ {p : Prop} (h : p := by (with_reducible repeat (first | apply Kd.R_alloc | apply Kd.R_drewN | apply Kd.R_drew)); exact HO217.out) : p := h
theorem z5_15_ {p : Prop} (h : p := by (with_reducible repeat (first | apply Kd.R_alloc | apply Kd.R_drewN | apply Kd.R_drew)); exact HO224.out) : p := h
theorem z5_16_ {p : Prop} (h : p := by (with_reducible repeat (first | apply Kd.R_alloc | apply Kd.R_drewN | apply Kd.R_drew)); exact HO235.out) : p := h
theorem z5_17_ {p : Prop} (h : p := by (with_reducible repeat (first | refine blk_drewN ?_ _ | refine blk_drew ?_ | refine blk_alloc ?_ _)); exact BK243.out) : p := h
theorem z5_18_ {p : Prop} (h : p := by simp only [putAll, Act.put, List.setIfInBounds_toArray, List.set_cons_zero, List.set_cons_succ]) : p := h
theorem z5_19_ {p : Prop} (h : p := by repeat (first | (with_reducible first | exact HB.out | apply below_alloc | apply pw_below_drewN | apply below_drew1 | refine below_set ?_ GE194.out) | exact HB.out)) : p := h
theorem z5_20_ {p : Prop} (h : p := by (with_reducible repeat (first | apply Kd.R_alloc | apply Kd.R_drewN | apply Kd.R_drew)); exact Kd.R_mono HO235.out (fun _ hk => ⟨hk.1.1.1.1.1.2, ⟨hk.1.1.1.1.2, ⟨hk.1.1.1.2, ⟨hk.1.1.2, ⟨hk.1.2, hk.2⟩⟩⟩⟩⟩)) : p := h
theorem z5_21_ {p : Prop} (h : p := by (with_reducible repeat (first | apply Kd.R_alloc | apply Kd.R_drewN | apply Kd.R_drew)); exact Kd.R_mono HO241.out (fun _ hk => ⟨hk.1.1.1.1.1.2, ⟨hk.1.1.1.1.2, ⟨hk.1.1.1.2, ⟨hk.1.1.2, ⟨hk.1.2, hk.2⟩⟩⟩⟩⟩)) : p := h
theorem z5_22_ {p : Prop} (h : p := by (with_reducible repeat (first | apply Kd.R_alloc | apply Kd.R_drewN | apply Kd.R_drew)); exact Kd.R_mono HO199.out (fun _ hk => ⟨hk.1.1.1, ⟨hk.1.1.2.1, ⟨hk.1.1.2.2.1, ⟨hk.1.1.2.2.2, ⟨hk.1.2, hk.2⟩⟩⟩⟩⟩)) : p := h
theorem z5_23_ {p : Prop} (h : p := by (with_reducible repeat (first | apply Kd.R_alloc | apply Kd.R_drewN | apply Kd.R_drew)); exact Kd.R_mono HO205.out (fun _ hk => ⟨hk.1.1.1, ⟨hk.1.1.2.1, ⟨hk.1.1.2.2.1, ⟨hk.1.1.2.2.2, ⟨hk.1.2, hk.2⟩⟩⟩⟩⟩)) : p := h
theorem z5_24_ {p : Prop} (h : p := by (with_reducible repeat (first | apply Kd.R_alloc | apply Kd.R_drewN | apply Kd.R_drew)); exact Kd.R_mono HO210.out (fun _ hk => ⟨hk.1.1.1, ⟨hk.1.1.2.1, ⟨hk.1.1.2.2.1, ⟨hk.1.1.2.2.2, ⟨hk.1.2, hk.2⟩⟩⟩⟩⟩)) : p := h
theorem z5_25_ {p : Prop} (h : p := by (with_reducible repeat (first | apply Kd.R_alloc | apply Kd.R_drewN | apply Kd.R_drew)); exact Kd.R_mono HO217.out (fun _ hk => ⟨hk.1.1.1, ⟨hk.1.1.2.1, ⟨hk.1.1.2.2.1, ⟨hk.1.1.2.2.2, ⟨hk.1.2, hk.2⟩⟩⟩⟩⟩)) : p := h
theorem z5_26_ {p : Prop} (h : p := by (with_reducible repeat (first | apply Kd.R_alloc | apply Kd.R_drewN | apply Kd.R_drew)); exact Kd.R_mono HO224.out (fun _ hk => ⟨hk.1.1.1, ⟨hk.1.1.2.1, ⟨hk.1.1.2.2.1, ⟨hk.1.1.2.2.2, ⟨hk.1.2, hk.2⟩⟩⟩⟩⟩)) : p := h
theorem z5_27_ {p : Prop} (h : p := by repeat (first | (with_reducible first | exact HB.out | apply below_alloc | apply pw_below_drewN | apply below_drew1) | exact HB.out)) : p := h
theorem z5_28_ {p : Prop} (h : p := by (with_reducible repeat (first | apply Kd.R_alloc | apply Kd.R_drewN | apply Kd.R_drew)); exact Kd.R_mono HO199.out (fun _ hk => hk.2)) : p := h
theorem z5_29_ {p : Prop} (h : p := by (with_reducible repeat (first | apply Kd.R_alloc | apply Kd.R_drewN | apply Kd.R_drew)); exact Kd.R_mono HO205.out (fun _ hk => hk.2)) : p := h
theorem z5_30_ {p : Prop} (h : p := by (with_reducible repeat (first | apply Kd.R_alloc | apply Kd.R_drewN | apply Kd.R_drew)); exact Kd.R_mono HO217.out (fun _ hk => ⟨hk.1.1.2, ⟨hk.1.2, hk.2⟩⟩)) : p := h
theorem z5_31_ {p : Prop} (h : p := by (with_reducible repeat (first | apply Kd.R_alloc | apply Kd.R_drewN | apply Kd.R_drew)); exact Kd.R_mono HO199.out (fun _ hk => ⟨hk.1.1, ⟨hk.1.2, hk.2⟩⟩)) : p := h
theorem z5_32_ {p : Prop} (h : p := by (with_reducible repeat (first | apply Kd.R_alloc | apply Kd.R_drewN | apply Kd.R_drew)); exact Kd.R_mono HO205.out (fun _ hk => ⟨hk.1.1, ⟨hk.1.2, hk.2⟩⟩)) : p := h
theorem z5_33_ {p : Prop} (h : p := by (with_reducible repeat (first | apply Kd.R_alloc | apply Kd.R_drewN | apply Kd.R_drew)); exact Kd.R_mono HO210.out (fun _ hk => ⟨hk.1.1, ⟨hk.1.2, hk.2⟩⟩)) : p := h
theorem z5_34_ {p : Prop} (h : p := by (try simp only [List.map_toArray, List.map_cons, List.map_nil]); first | done | (rw [show t231.length = t215.length from (Kd.R_reads' HO217.out).1.symm] <;> rfl) | rfl | (simp only [List.length_drop, List.length_take]; rfl)) : p := h

/-! ### laws_FnExactAddClue: function 6 -/
def laws_FnExactAddClue.f (k : Nat) (l0_0 : List (S23)) (a1_0 : Int) (a1_1 : Int) (a1_2 : Int) : Option (Bool) := (laws_szPuzzle.f l0_0 1048576).bind fun t196 => (if t196 < 0 then (some true) else ((laws_toPuzzle.f k l0_0).bind fun t197 => ((laws_toClue.f a1_0 a1_1 a1_2).bind fun bt200 => ((spec_AddClue.f k t197 bt200.1 bt200.2.1 bt200.2.2).bind fun bt203 => ((laws_toPuzzle.f k l0_0).bind fun t208 => ((laws_toClue.f a1_0 a1_1 a1_2).bind fun bt212 => ((impl_AddClue.f k t208 bt212.1 bt212.2.1 bt212.2.2).bind fun bt215 => ((laws_eqPuzzle.f k bt215.1 bt203.1).bind fun t221 => (if t221 = true then (if (bt215.2 != bt203.2) = true then (some false) else ((laws_toPuzzle.f k l0_0).bind fun t222 => ((laws_eqPuzzle.f k t208 t222).bind fun t225 => (if t225 = true then ((laws_markPuzzle.f k t208 1).bind fun bt226 => (if bt226.1 < 0 then (some false) else ((laws_eqPuzzle.f k bt215.1 bt203.1).bind fun t229 => (if t229 = true then ((laws_markPuzzle.f k bt215.1 1).bind fun bt230 => ((laws_heldPuzzle.f k bt230.2 1).bind fun t232 => (if t232 < 0 then (some false) else (if t232 = bt230.1 then ((laws_toPuzzle.f k l0_0).bind fun t233 => ((laws_toClue.f a1_0 a1_1 a1_2).bind fun bt236 => ((impl_AddClue.f k t233 bt236.1 bt236.2.1 bt236.2.2).bind fun bt239 => ((laws_eqPuzzle.f k bt239.1 bt203.1).bind fun t245 => (if t245 = true then (if (bt239.2 != bt203.2) = true then (some false) else ((laws_heldPuzzle.f k bt230.2 1).bind fun t246 => (if t246 < 0 then (some false) else (if t246 = bt230.1 then (some true) else (some false))))) else (some false)))))) else (some false))))) else (some false))))) else (some false))))) else (some false))))))))))
def laws_FnExactAddClue.T5 : Bool × List (List Nat × List Nat) := (true, [([], []), ([0], [0]), ([], []), ([2, 1], [2]), ([1, 3, 3], [1, 3]), ([4], [4]), ([5], [5]), ([5], [5]), ([], []), ([8, 6, 4, 0, 1, 2, 3, 4, 5, 6, 8], [6, 8]), ([7, 9, 0, 1, 2, 3, 4, 5, 6, 7, 8, 9], [7])])
def laws_FnExactAddClue.B5 : List Nat := [0, 1, 0, 7, 15, 31, 63, 63, 0, 383, 1023]
theorem laws_FnExactAddClue.tab5 : rtab .any (opsOf Try.f6 5) = laws_FnExactAddClue.T5 := by kernel_rfl
theorem laws_FnExactAddClue.bits5 : waitsOk laws_FnExactAddClue.T5.2 laws_FnExactAddClue.B5 = true := by kernel_rfl
def laws_FnExactAddClue.T7 : Bool × List (List Nat × List Nat) := (true, [([], []), ([], []), ([1], [1]), ([0, 2, 2], [0, 2]), ([3], [3]), ([4], [4]), ([4], [4]), ([], []), ([7, 5, 3, 0, 1, 2, 3, 4, 5, 7], [5, 7]), ([6, 8, 0, 1, 2, 3, 4, 5, 6, 7, 8], [6])])
def laws_FnExactAddClue.B7 : List Nat := [0, 0, 2, 7, 15, 31, 31, 0, 191, 511]
theorem laws_FnExactAddClue.tab7 : rtab .any (opsOf Try.f6 7) = laws_FnExactAddClue.T7 := by kernel_rfl
theorem laws_FnExactAddClue.bits7 : waitsOk laws_FnExactAddClue.T7.2 laws_FnExactAddClue.B7 = true := by kernel_rfl
def laws_FnExactAddClue.T24 : Bool × List (List Nat × List Nat) := (true, [([], []), ([0], [0]), ([], []), ([2, 1], [2]), ([1, 3, 3], [1, 3]), ([4], [4]), ([5], [5]), ([5], [5]), ([], []), ([8, 6, 4, 0, 1, 2, 3, 4, 5, 6, 8], [6, 8]), ([7, 9, 0, 1, 2, 3, 4, 5, 6, 7, 8, 9], [7])])
def laws_FnExactAddClue.B24 : List Nat := [0, 1, 0, 7, 15, 31, 63, 63, 0, 383, 1023]
theorem laws_FnExactAddClue.tab24 : rtab .any (opsOf Try.f6 24) = laws_FnExactAddClue.T24 := by kernel_rfl
theorem laws_FnExactAddClue.bits24 : waitsOk laws_FnExactAddClue.T24.2 laws_FnExactAddClue.B24 = true := by kernel_rfl
set_option maxHeartbeats 8000000 in
set_option maxRecDepth 100000 in
theorem laws_FnExactAddClue.calls (k : Nat) (A0_0 : Option Addr) (c0_0 : Nat) (l0_0 : List (S23)) (a1_0 : Int) (a1_1 : Int) (a1_2 : Int) (r : Bool) (w : World) (hr0_0 : Kd.C k23 w A0_0 l0_0.length l0_0) (hc0_0 : l0_0.length ≤ c0_0) (hr_ : Aside0 (r = true)) (h : laws_FnExactAddClue.f k l0_0 a1_0 a1_1 a1_2 = some r) :
 Calls Try.prog 6 #[.agg #[.slice A0_0 l0_0.length c0_0], .agg #[.int .i64 a1_0, .int .i64 a1_1, .int .i64 a1_2]] w fun e w' => e = .returned (.bool r) ∧ Below w.heap.size w w' := by
 have hu39 := Try.underlying39
 have hu23 := Try.underlying23
 have hu44 := Try.underlying44
 have HR0_0 := Aside0.mk hr0_0
 have HC0_0 := Aside0.mk hc0_0
 clear hr0_0 hc0_0
 have HB := Aside0.mk (Below.refl w.heap.size w)
 have H : ((laws_szPuzzle.f l0_0 1048576).bind fun t196 => (if t196 < 0 then (some true) else ((laws_toPuzzle.f k l0_0).bind fun t197 => ((laws_toClue.f a1_0 a1_1 a1_2).bind fun bt200 => ((spec_AddClue.f k t197 bt200.1 bt200.2.1 bt200.2.2).bind fun bt203 => ((laws_toPuzzle.f k l0_0).bind fun t208 => ((laws_toClue.f a1_0 a1_1 a1_2).bind fun bt212 => ((impl_AddClue.f k t208 bt212.1 bt212.2.1 bt212.2.2).bind fun bt215 => ((laws_eqPuzzle.f k bt215.1 bt203.1).bind fun t221 => (if t221 = true then (if (bt215.2 != bt203.2) = true then (some false) else ((laws_toPuzzle.f k l0_0).bind fun t222 => ((laws_eqPuzzle.f k t208 t222).bind fun t225 => (if t225 = true then ((laws_markPuzzle.f k t208 1).bind fun bt226 => (if bt226.1 < 0 then (some false) else ((laws_eqPuzzle.f k bt215.1 bt203.1).bind fun t229 => (if t229 = true then ((laws_markPuzzle.f k bt215.1 1).bind fun bt230 => ((laws_heldPuzzle.f k bt230.2 1).bind fun t232 => (if t232 < 0 then (some false) else (if t232 = bt230.1 then ((laws_toPuzzle.f k l0_0).bind fun t233 => ((laws_toClue.f a1_0 a1_1 a1_2).bind fun bt236 => ((impl_AddClue.f k t233 bt236.1 bt236.2.1 bt236.2.2).bind fun bt239 => ((laws_eqPuzzle.f k bt239.1 bt203.1).bind fun t245 => (if t245 = true then (if (bt239.2 != bt203.2) = true then (some false) else ((laws_heldPuzzle.f k bt230.2 1).bind fun t246 => (if t246 < 0 then (some false) else (if t246 = bt230.1 then (some true) else (some false))))) else (some false)))))) else (some false))))) else (some false))))) else (some false))))) else (some false))))))))))) = some r := h
 clear h
 replace H := Option.bind_eq_some_iff.mp H
 obtain ⟨t196, A30, H⟩ := H
 have A3 := Aside0.mk A30
 clear A30
 by_cases c4 : t196 < 0
 · rw [if_pos c4] at H
   have c4b0 : decide (t196 < 0) = true := decide_eq_true c4
   clear c4
   obtain rfl := Option.some.inj H
   go_enter Try.func6, Try.ntmps6
   go_wp2_with (first | ((with_reducible refine gate_dst (N := 2) rfl ?_); refine box_event ?hg (N := 2) ?hd (cs := #[.slice A0_0 l0_0.length c0_0]) (t := 39) ?hr ?_; (case hd => rfl); (case hg => rfl); (case hr => first | (go_simp; done) | (go_simp; rfl)); intro gb194 hg w5 hbox hb; have n0_ := Aside0.mk (below_step z5_27_ hb); have n1_ := Aside0.mk (hbox); have n2_ := Aside0.mk ((by rw [hg]; exact (below_size z5_27_) : w.heap.size ≤ gb194)); have n3_ := Aside0.mk ((by rw [hg]; exact (below_size z5_27_) : w.heap.size ≤ gb194)); clear HB; have HB := n0_; have BK194 := n1_; have GW194 := n2_; have GE194 := n3_; clear n0_ n1_ n2_ n3_; clear hb hbox hg) | ((with_reducible refine gate_dst (N := 3) rfl ?_); refine box_event ?hg (N := 3) ?hd (cs := #[.int .i64 a1_0, .int .i64 a1_1, .int .i64 a1_2]) (t := 23) ?hr ?_; (case hd => rfl); (case hg => rfl); (case hr => first | (go_simp; done) | (go_simp; rfl)); intro gb195 hg w6 hbox hb; have n0_ := Aside0.mk (blk_below (g := gb194) (o := .cells #[.slice A0_0 l0_0.length c0_0] 39 (0, 0)) z5_0_ hb); have n1_ := Aside0.mk (below_step z5_19_ hb); have n2_ := Aside0.mk (hbox); have n3_ := Aside0.mk ((by rw [hg]; exact (below_size z5_19_) : w.heap.size ≤ gb195)); have n4_ := Aside0.mk ((by rw [hg]; exact (below_size z5_19_) : w.heap.size ≤ gb195)); have n5_ := Aside0.mk ((by rw [hg]; exact Nat.ne_of_lt (blk_lt (g := gb194) (o := .cells #[.slice A0_0 l0_0.length c0_0] 39 (0, 0)) z5_0_) : gb194 ≠ gb195)); have n6_ := Aside0.mk ((by rw [hg]; exact Nat.ne_of_gt (blk_lt (g := gb194) (o := .cells #[.slice A0_0 l0_0.length c0_0] 39 (0, 0)) z5_0_) : gb195 ≠ gb194)); clear BK194; clear HB; have BK194 := n0_; have HB := n1_; have BK195 := n2_; have GW195 := n3_; have GE195 := n4_; have NB194_195 := n5_; have NB195_194 := n6_; clear n0_ n1_ n2_ n3_ n4_ n5_ n6_; clear hb hbox hg; have hnb7 := NB194_195.out; have hnc7 := NB195_194.out; have hcz8_0 : w6.cell? ⟨gb194, 0, none⟩ = some (.slice A0_0 l0_0.length c0_0) := (blk_cell BK194.out 0).trans rfl; have hfz8_0 := blk_frozen BK194.out 0) | ((with_reducible refine gate_callee (f := 16) rfl ?_); refine goesL_ (some 18) rfl rfl Try.func16 (by kernel_rfl) rfl #[.agg #[.slice A0_0 l0_0.length c0_0], .int .i64 1048576] rfl z5_9_ ?_; (with_reducible refine (laws_szPuzzle.calls _ _ l0_0 1048576 t196 _ ?side1 ?side2 A3.out).mono ?_); (case side1 => repeat (first | exact (Kd.C_below HR0_0.out HB.out) | (with_reducible refine Kd.C_alloc ?_ _) | (with_reducible refine Kd.C_drewN ?_ _) | (with_reducible refine Kd.C_drew ?_))); (case side2 => exact HC0_0.out); rintro e w9 ⟨rfl, hb⟩; refine ⟨_, rfl, ?_⟩; have n0_ := Aside0.mk (blk_below (g := gb194) (o := .cells #[.slice A0_0 l0_0.length c0_0] 39 (0, 0)) z5_0_ hb); have n1_ := Aside0.mk (blk_below (g := gb195) (o := .cells #[.int .i64 a1_0, .int .i64 a1_1, .int .i64 a1_2] 23 (0, 0)) z5_1_ hb); have n2_ := Aside0.mk (below_step z5_12_ hb); clear BK194; clear BK195; clear HB; have BK194 := n0_; have BK195 := n1_; have HB := n2_; clear n0_ n1_ n2_; (try clear hb); (try clear hb2); (try clear hk); (try clear hi)))
   go_ret
   exact ⟨by first | rfl | (simp [errW_none, errW_some] <;> rfl) | (simp [*, errW_none, errW_some] <;> rfl), by repeat (first | (with_reducible first | exact HB.out | apply below_alloc | apply pw_below_drewN | apply below_drew1 | refine below_set ?_ GE194.out | refine below_set ?_ GE195.out) | exact HB.out)⟩
 rw [if_neg c4] at H
 have c4b0 : decide (t196 < 0) = false := decide_eq_false c4
 clear c4
 replace H := Option.bind_eq_some_iff.mp H
 obtain ⟨t197, A100, H⟩ := H
 have A10 := Aside0.mk A100
 clear A100
 replace H := Option.bind_eq_some_iff.mp H
 obtain ⟨⟨t200, t201, t202⟩, A110, H⟩ := H
 dsimp only at H
 have A11 := Aside0.mk A110
 clear A110
 replace H := Option.bind_eq_some_iff.mp H
 obtain ⟨⟨t203, t206⟩, A120, H⟩ := H
 dsimp only at H
 have A12 := Aside0.mk A120
 clear A120
 replace H := Option.bind_eq_some_iff.mp H
 obtain ⟨t208, A130, H⟩ := H
 have A13 := Aside0.mk A130
 clear A130
 replace H := Option.bind_eq_some_iff.mp H
 obtain ⟨⟨t212, t213, t214⟩, A140, H⟩ := H
 dsimp only at H
 have A14 := Aside0.mk A140
 clear A140
 replace H := Option.bind_eq_some_iff.mp H
 obtain ⟨⟨t215, t218⟩, A150, H⟩ := H
 dsimp only at H
 have A15 := Aside0.mk A150
 clear A150
 replace H := Option.bind_eq_some_iff.mp H
 obtain ⟨t221, A160, H⟩ := H
 have A16 := Aside0.mk A160
 clear A160
 by_cases c17 : t221 = true
 · subst c17
   rw [if_pos rfl] at H
   by_cases c18 : (t218 != t206) = true
   · exact dead_ (if_pos c18) H hr_
   rw [if_neg c18] at H
   have c18b0 : (t218 != t206) = false := by simpa using c18
   (try (have c18b1 : decide (t218 = t206) = true := by simpa using c18))
   (try (have c18b2 : (t218 == t206) = true := by simpa using c18))
   clear c18
   replace H := Option.bind_eq_some_iff.mp H
   obtain ⟨t222, A190, H⟩ := H
   have A19 := Aside0.mk A190
   clear A190
   replace H := Option.bind_eq_some_iff.mp H
   obtain ⟨t225, A200, H⟩ := H
   have A20 := Aside0.mk A200
   clear A200
   by_cases c21 : t225 = true
   · subst c21
     rw [if_pos rfl] at H
     replace H := Option.bind_eq_some_iff.mp H
     obtain ⟨⟨t226, t227⟩, A220, H⟩ := H
     dsimp only at H
     have A22 := Aside0.mk A220
     clear A220
     by_cases c23 : t226 < 0
     · exact dead_ (if_pos c23) H hr_
     rw [if_neg c23] at H
     have c23b0 : decide (t226 < 0) = false := decide_eq_false c23
     clear c23
     replace H := Option.bind_eq_some_iff.mp H
     obtain ⟨t229, A240, H⟩ := H
     have A24 := Aside0.mk A240
     clear A240
     by_cases c25 : t229 = true
     · subst c25
       rw [if_pos rfl] at H
       replace H := Option.bind_eq_some_iff.mp H
       obtain ⟨⟨t230, t231⟩, A260, H⟩ := H
       dsimp only at H
       have A26 := Aside0.mk A260
       clear A260
       replace H := Option.bind_eq_some_iff.mp H
       obtain ⟨t232, A270, H⟩ := H
       have A27 := Aside0.mk A270
       clear A270
       by_cases c28 : t232 < 0
       · exact dead_ (if_pos c28) H hr_
       rw [if_neg c28] at H
       have c28b0 : decide (t232 < 0) = false := decide_eq_false c28
       clear c28
       by_cases c29 : t232 = t230
       rotate_left
       · exact dead_ (if_neg c29) H hr_
       rw [if_pos c29] at H
       have c29b0 : (t232 == t230) = true := beq_iff_eq.mpr c29
       have c29b1 : (t232 != t230) = false := bne_eq_false_iff_eq.mpr c29
       clear c29
       replace H := Option.bind_eq_some_iff.mp H
       obtain ⟨t233, A300, H⟩ := H
       have A30 := Aside0.mk A300
       clear A300
       replace H := Option.bind_eq_some_iff.mp H
       obtain ⟨⟨t236, t237, t238⟩, A310, H⟩ := H
       dsimp only at H
       have A31 := Aside0.mk A310
       clear A310
       replace H := Option.bind_eq_some_iff.mp H
       obtain ⟨⟨t239, t242⟩, A320, H⟩ := H
       dsimp only at H
       have A32 := Aside0.mk A320
       clear A320
       replace H := Option.bind_eq_some_iff.mp H
       obtain ⟨t245, A330, H⟩ := H
       have A33 := Aside0.mk A330
       clear A330
       by_cases c34 : t245 = true
       · subst c34
         rw [if_pos rfl] at H
         by_cases c35 : (t242 != t206) = true
         · exact dead_ (if_pos c35) H hr_
         rw [if_neg c35] at H
         have c35b0 : (t242 != t206) = false := by simpa using c35
         (try (have c35b1 : decide (t242 = t206) = true := by simpa using c35))
         (try (have c35b2 : (t242 == t206) = true := by simpa using c35))
         clear c35
         replace H := Option.bind_eq_some_iff.mp H
         obtain ⟨t246, A360, H⟩ := H
         have A36 := Aside0.mk A360
         clear A360
         by_cases c37 : t246 < 0
         · exact dead_ (if_pos c37) H hr_
         rw [if_neg c37] at H
         have c37b0 : decide (t246 < 0) = false := decide_eq_false c37
         clear c37
         by_cases c38 : t246 = t230
         rotate_left
         · exact dead_ (if_neg c38) H hr_
         rw [if_pos c38] at H
         have c38b0 : (t246 == t230) = true := beq_iff_eq.mpr c38
         have c38b1 : (t246 != t230) = false := bne_eq_false_iff_eq.mpr c38
         clear c38
         obtain rfl := Option.some.inj H
         go_enter Try.func6, Try.ntmps6
         try go_wp2_with (first | ((with_reducible refine gate_dst (N := 2) rfl ?_); refine box_event ?hg (N := 2) ?hd (cs := #[.slice A0_0 l0_0.length c0_0]) (t := 39) ?hr ?_; (case hd => rfl); (case hg => rfl); (case hr => first | (go_simp; done) | (go_simp; rfl)); intro gb194 hg w39 hbox hb; have n0_ := Aside0.mk (below_step z5_27_ hb); have n1_ := Aside0.mk (hbox); have n2_ := Aside0.mk ((by rw [hg]; exact (below_size z5_27_) : w.heap.size ≤ gb194)); have n3_ := Aside0.mk ((by rw [hg]; exact (below_size z5_27_) : w.heap.size ≤ gb194)); clear HB; have HB := n0_; have BK194 := n1_; have GW194 := n2_; have GE194 := n3_; clear n0_ n1_ n2_ n3_; clear hb hbox hg) | ((with_reducible refine gate_dst (N := 3) rfl ?_); refine box_event ?hg (N := 3) ?hd (cs := #[.int .i64 a1_0, .int .i64 a1_1, .int .i64 a1_2]) (t := 23) ?hr ?_; (case hd => rfl); (case hg => rfl); (case hr => first | (go_simp; done) | (go_simp; rfl)); intro gb195 hg w40 hbox hb; have n0_ := Aside0.mk (blk_below (g := gb194) (o := .cells #[.slice A0_0 l0_0.length c0_0] 39 (0, 0)) z5_0_ hb); have n1_ := Aside0.mk (below_step z5_19_ hb); have n2_ := Aside0.mk (hbox); have n3_ := Aside0.mk ((by rw [hg]; exact (below_size z5_19_) : w.heap.size ≤ gb195)); have n4_ := Aside0.mk ((by rw [hg]; exact (below_size z5_19_) : w.heap.size ≤ gb195)); have n5_ := Aside0.mk ((by rw [hg]; exact Nat.ne_of_lt (blk_lt (g := gb194) (o := .cells #[.slice A0_0 l0_0.length c0_0] 39 (0, 0)) z5_0_) : gb194 ≠ gb195)); have n6_ := Aside0.mk ((by rw [hg]; exact Nat.ne_of_gt (blk_lt (g := gb194) (o := .cells #[.slice A0_0 l0_0.length c0_0] 39 (0, 0)) z5_0_) : gb195 ≠ gb194)); clear BK194; clear HB; have BK194 := n0_; have HB := n1_; have BK195 := n2_; have GW195 := n3_; have GE195 := n4_; have NB194_195 := n5_; have NB195_194 := n6_; clear n0_ n1_ n2_ n3_ n4_ n5_ n6_; clear hb hbox hg; have hnb41 := NB194_195.out; have hnc41 := NB195_194.out; have hcz42_0 : w40.cell? ⟨gb194, 0, none⟩ = some (.slice A0_0 l0_0.length c0_0) := (blk_cell BK194.out 0).trans rfl; have hfz42_0 := blk_frozen BK194.out 0) | ((with_reducible refine gate_callee (f := 16) rfl ?_); refine goesL_ (some 18) rfl rfl Try.func16 (by kernel_rfl) rfl #[.agg #[.slice A0_0 l0_0.length c0_0], .int .i64 1048576] rfl z5_9_ ?_; (with_reducible refine (laws_szPuzzle.calls _ _ l0_0 1048576 t196 _ ?side1 ?side2 A3.out).mono ?_); (case side1 => repeat (first | exact (Kd.C_below HR0_0.out HB.out) | (with_reducible refine Kd.C_alloc ?_ _) | (with_reducible refine Kd.C_drewN ?_ _) | (with_reducible refine Kd.C_drew ?_))); (case side2 => exact HC0_0.out); rintro e w43 ⟨rfl, hb⟩; refine ⟨_, rfl, ?_⟩; have n0_ := Aside0.mk (blk_below (g := gb194) (o := .cells #[.slice A0_0 l0_0.length c0_0] 39 (0, 0)) z5_0_ hb); have n1_ := Aside0.mk (blk_below (g := gb195) (o := .cells #[.int .i64 a1_0, .int .i64 a1_1, .int .i64 a1_2] 23 (0, 0)) z5_1_ hb); have n2_ := Aside0.mk (below_step z5_12_ hb); clear BK194; clear BK195; clear HB; have BK194 := n0_; have BK195 := n1_; have HB := n2_; clear n0_ n1_ n2_; (try clear hb); (try clear hb2); (try clear hk); (try clear hi)))
         have n0_ := Aside0.mk (blk_drew BK194.out)
         have n1_ := Aside0.mk (blk_drew BK195.out)
         have n2_ := Aside0.mk (below_drew1 HB.out)
         clear BK194
         clear BK195
         clear HB
         have BK194 := n0_
         have BK195 := n1_
         have HB := n2_
         clear n0_ n1_ n2_
         refine start_ (n := 11) (S := fun w' => w'.cell? ⟨gb194, 0, none⟩ = some (.slice A0_0 l0_0.length c0_0) ∧ w'.cell? ⟨gb195, 0, none⟩ = some (.int .i64 a1_0) ∧ w'.cell? ⟨gb195, 1, none⟩ = some (.int .i64 a1_1) ∧ w'.cell? ⟨gb195, 2, none⟩ = some (.int .i64 a1_2)) (ds := []) #[false, false, false, false, false, false, false, false, false, false, false] (by kernel_rfl) rfl rfl ⟨(blk_cell BK194.out 0).trans rfl, (blk_cell BK195.out 0).trans rfl, (blk_cell BK195.out 1).trans rfl, (blk_cell BK195.out 2).trans rfl⟩ (fun hHeld => ?_); refine with_tabW laws_FnExactAddClue.tab5 laws_FnExactAddClue.bits5 (fun HT_ HW_ => ?_)
         generalize w43.drew = w44 at BK194 BK195 HB hHeld ⊢
         refine take_ (i := 0) (N := some 22) (v := ?_) (a' := ?_) #[true, false, false, false, false, false, false, false, false, false, false] rfl rfl (take_ofW HT_.out HW_.out (by kernel_rfl)) (fun _ _ _ h => h) (Or.inl ⟨by rfl, ?_⟩) hHeld ?_ ?_
         rotate_left
         · rintro w' ⟨s0, s1, s2, s3⟩
           go_simp
           with_reducible rfl
         rotate_left
         · simp only [Act.put, List.setIfInBounds_toArray, List.set_cons_zero, List.set_cons_succ, i64_w, i32_w]
           rfl
         refine take_ (i := 2) (N := some 24) (v := ?_) (a' := ?_) #[true, false, true, false, false, false, false, false, false, false, false] rfl rfl (take_ofW HT_.out HW_.out (by kernel_rfl)) (fun _ _ _ h => h) (Or.inl ⟨by rfl, ?_⟩) hHeld ?_ ?_
         rotate_left
         · rintro w' ⟨s0, s1, s2, s3⟩
           go_simp
           with_reducible rfl
         rotate_left
         · simp only [Act.put, List.setIfInBounds_toArray, List.set_cons_zero, List.set_cons_succ, i64_w, i32_w]
           rfl
         refine join_ (σ := Value × Value × Nat) 2 #[true, true, true, true, true, true, true, true, true, false, false] (fun s_ => [(23, .agg #[s_.1]), (25, .agg #[.int .i64 t200, .int .i64 t201, .int .i64 t202]), (26, .tuple #[.agg #[s_.2.1], .bool t206]), (6, .pointer (some ⟨s_.2.2, 0, none⟩)), (21, .tuple #[.agg #[s_.2.1], .bool t206]), (27, .agg #[s_.2.1]), (28, .bool t206)]) (fun s_ w' => (w'.cell? ⟨gb194, 0, none⟩ = some (.slice A0_0 l0_0.length c0_0) ∧ w'.cell? ⟨gb195, 0, none⟩ = some (.int .i64 a1_0) ∧ w'.cell? ⟨gb195, 1, none⟩ = some (.int .i64 a1_1) ∧ w'.cell? ⟨gb195, 2, none⟩ = some (.int .i64 a1_2)) ∧ (Kd.R k25 25 w' w.heap.size (fun k_ => some k_ ≠ (s_.2.1 : Value).ownBlock) s_.1 t197) ∧ (Kd.R k25 25 w' w.heap.size (fun k_ => some k_ ≠ (s_.1 : Value).ownBlock) s_.2.1 t203) ∧ (w'.heap[gb194]? = some (.cells #[.slice A0_0 l0_0.length c0_0] 39 (0, 0))) ∧ (w'.heap[gb195]? = some (.cells #[.int .i64 a1_0, .int .i64 a1_1, .int .i64 a1_2] 23 (0, 0))) ∧ (w'.heap[s_.2.2]? = some (.cells #[.slice none 0 0] 44 (0, 0))) ∧ (w.heap.size ≤ s_.2.2) ∧ (w.heap.size ≤ s_.2.2) ∧ (gb194 ≠ s_.2.2) ∧ (s_.2.2 ≠ gb194) ∧ (gb195 ≠ s_.2.2) ∧ (s_.2.2 ≠ gb195) ∧ (Below w.heap.size w w')) ?_ ?_
         rotate_left
         · intro hCont
           refine two_ (i := 1) (j := 8) (Ni := some 23) (Nj := some 6) #[true, true, true, false, false, false, false, false, false, false, false] #[true, false, true, false, false, false, false, false, true, false, false] rfl rfl rfl rfl (two_of HT_.out (by kernel_rfl)) (by decide) (by decide) (fun K hK => ?_) (fun K hK => ?_)
           · skip
             refine goes_ Try.func18 (by kernel_rfl) rfl #[.agg #[.slice A0_0 l0_0.length c0_0]] (by rfl) rfl rfl z5_9_ ?_
             with_reducible refine (laws_toPuzzle.calls k _ _ l0_0 t197 _ ?side1 ?side2 A10.out).mono ?_
             (case side1 => repeat (first | exact (Kd.C_below HR0_0.out HB.out) | (with_reducible refine Kd.C_alloc ?_ _) | (with_reducible refine Kd.C_drewN ?_ _) | (with_reducible refine Kd.C_drew ?_)))
             (case side2 => exact HC0_0.out)
             rintro e w45 ⟨v198, rfl, ho0, hb⟩
             refine ⟨_, rfl, ?_⟩
             have n0_ := Aside0.mk (Kd.R_lower ho0 (below_size z5_12_))
             have n1_ := Aside0.mk (blk_below (g := gb194) (o := .cells #[.slice A0_0 l0_0.length c0_0] 39 (0, 0)) z5_0_ hb)
             have n2_ := Aside0.mk (blk_below (g := gb195) (o := .cells #[.int .i64 a1_0, .int .i64 a1_1, .int .i64 a1_2] 23 (0, 0)) z5_1_ hb)
             have n3_ := Aside0.mk (below_step z5_12_ hb)
             clear BK194
             clear BK195
             clear HB
             have HO199 := n0_
             have BK194 := n1_
             have BK195 := n2_
             have HB := n3_
             clear n0_ n1_ n2_ n3_
             (try clear hb)
             (try clear hb2)
             (try clear hk)
             (try clear hi)
             (try clear ho0)
             refine hK.out _ _ ⟨(blk_cell BK194.out 0).trans rfl, (blk_cell BK195.out 0).trans rfl, (blk_cell BK195.out 1).trans rfl, (blk_cell BK195.out 2).trans rfl⟩ (fun hHeld => ?_)
             clear hK K
             refine norm_ (a' := ?_) ?_ ?_
             rotate_left
             · show Act.put _ (some 23) _ = _
               simp only [Act.put, List.setIfInBounds_toArray, List.set_cons_zero, List.set_cons_succ, i64_w, i32_w]
               rfl
             refine two_ (i := 3) (j := 8) (Ni := some 25) (Nj := some 6) #[true, true, true, true, false, false, false, false, false, false, false] #[true, true, true, false, false, false, false, false, true, false, false] rfl rfl rfl rfl (two_of HT_.out (by kernel_rfl)) (by decide) (by decide) (fun K hK => ?_) (fun K hK => ?_)
             · skip
               refine goes_ Try.func9 (by kernel_rfl) rfl #[.agg #[.int .i64 a1_0, .int .i64 a1_1, .int .i64 a1_2]] (by rfl) rfl rfl z5_9_ ?_
               with_reducible refine (laws_toClue.calls a1_0 a1_1 a1_2 t200 t201 t202 _ A11.out).mono ?_
               rintro e w46 ⟨rfl, hb⟩
               refine ⟨_, rfl, ?_⟩
               have n0_ := Aside0.mk (Kd.R_below z5_5_ hb)
               have n1_ := Aside0.mk (blk_below (g := gb194) (o := .cells #[.slice A0_0 l0_0.length c0_0] 39 (0, 0)) z5_0_ hb)
               have n2_ := Aside0.mk (blk_below (g := gb195) (o := .cells #[.int .i64 a1_0, .int .i64 a1_1, .int .i64 a1_2] 23 (0, 0)) z5_1_ hb)
               have n3_ := Aside0.mk (below_step z5_12_ hb)
               clear HO199
               clear BK194
               clear BK195
               clear HB
               have HO199 := n0_
               have BK194 := n1_
               have BK195 := n2_
               have HB := n3_
               clear n0_ n1_ n2_ n3_
               (try clear hb)
               (try clear hb2)
               (try clear hk)
               (try clear hi)
               obtain ⟨Ao47, co47, eo47⟩ := Kd.R_slice HO199.out
               (first | subst eo47 | (injection eo47 with f1_ f2_ f3_; have f4_ := f1_.symm; have f5_ := f3_.symm; clear f1_ f2_ f3_; subst f4_; subst f5_))
               refine hK.out _ _ ⟨(blk_cell BK194.out 0).trans rfl, (blk_cell BK195.out 0).trans rfl, (blk_cell BK195.out 1).trans rfl, (blk_cell BK195.out 2).trans rfl⟩ (fun hHeld => ?_)
               clear hK K
               refine norm_ (a' := ?_) ?_ ?_
               rotate_left
               · show Act.put _ (some 25) _ = _
                 simp only [Act.put, List.setIfInBounds_toArray, List.set_cons_zero, List.set_cons_succ, i64_w, i32_w]
                 rfl
               refine two_ (i := 4) (j := 8) (Ni := some 26) (Nj := some 6) #[true, true, true, true, true, false, false, false, false, false, false] #[true, true, true, true, false, false, false, false, true, false, false] rfl rfl rfl rfl (two_of HT_.out (by kernel_rfl)) (by decide) (by decide) (fun K hK => ?_) (fun K hK => ?_)
               · skip
                 refine goes_ Try.func21 (by kernel_rfl) rfl #[.agg #[.slice Ao47 t197.length co47], .agg #[.int .i64 t200, .int .i64 t201, .int .i64 t202]] (by rfl) rfl rfl z5_9_ ?_
                 with_reducible refine (spec_AddClue.calls k _ _ t197 t200 t201 t202 t203 t206 _ ?side1 ?side2 A12.out).mono ?_
                 (case side1 => repeat (first | exact (Kd.R_reads' HO199.out).2.2 | (with_reducible refine Kd.C_alloc ?_ _) | (with_reducible refine Kd.C_drewN ?_ _) | (with_reducible refine Kd.C_drew ?_)))
                 (case side2 => exact (Kd.R_reads' HO199.out).2.1)
                 rintro e w48 ⟨v204, rfl, ho0, hb⟩
                 refine ⟨_, rfl, ?_⟩
                 have n0_ := Aside0.mk (Kd.R_elder' z5_5_ (Kd.R_base ho0) hb)
                 have n1_ := Aside0.mk (Kd.R_lower (Kd.R_new' ho0 (Kd.R_lt z5_5_)) (below_size z5_12_))
                 have n2_ := Aside0.mk (blk_below (g := gb194) (o := .cells #[.slice A0_0 l0_0.length c0_0] 39 (0, 0)) z5_0_ hb)
                 have n3_ := Aside0.mk (blk_below (g := gb195) (o := .cells #[.int .i64 a1_0, .int .i64 a1_1, .int .i64 a1_2] 23 (0, 0)) z5_1_ hb)
                 have n4_ := Aside0.mk (below_step z5_12_ hb)
                 clear HO199
                 clear BK194
                 clear BK195
                 clear HB
                 have HO199 := n0_
                 have HO205 := n1_
                 have BK194 := n2_
                 have BK195 := n3_
                 have HB := n4_
                 clear n0_ n1_ n2_ n3_ n4_
                 (try clear hb)
                 (try clear hb2)
                 (try clear hk)
                 (try clear hi)
                 (try clear ho0)
                 refine hK.out _ _ ⟨(blk_cell BK194.out 0).trans rfl, (blk_cell BK195.out 0).trans rfl, (blk_cell BK195.out 1).trans rfl, (blk_cell BK195.out 2).trans rfl⟩ (fun hHeld => ?_)
                 clear hK K
                 refine norm_ (a' := ?_) ?_ ?_
                 rotate_left
                 · show Act.put _ (some 26) _ = _
                   simp only [Act.put, List.setIfInBounds_toArray, List.set_cons_zero, List.set_cons_succ, i64_w, i32_w]
                   rfl
                 refine pure_ (i := 5) (N := some 21) (v := ?_) (a' := ?_) #[true, true, true, true, true, true, false, false, false, false, false] rfl rfl (any_of HT_.out (by kernel_rfl)) (fun _ _ _ h => h) (Or.inl ⟨by rfl, ?_⟩) ?_ ?_
                 rotate_left
                 · intro w'
                   go_simp
                   with_reducible rfl
                 rotate_left
                 · simp only [Act.put, List.setIfInBounds_toArray, List.set_cons_zero, List.set_cons_succ, i64_w, i32_w]
                   rfl
                 refine pure_ (i := 6) (N := some 27) (v := ?_) (a' := ?_) #[true, true, true, true, true, true, true, false, false, false, false] rfl rfl (any_of HT_.out (by kernel_rfl)) (fun _ _ _ h => h) (Or.inl ⟨by rfl, ?_⟩) ?_ ?_
                 rotate_left
                 · intro w'
                   go_simp
                   with_reducible rfl
                 rotate_left
                 · simp only [Act.put, List.setIfInBounds_toArray, List.set_cons_zero, List.set_cons_succ, i64_w, i32_w]
                   rfl
                 refine pure_ (i := 7) (N := some 28) (v := ?_) (a' := ?_) #[true, true, true, true, true, true, true, true, false, false, false] rfl rfl (any_of HT_.out (by kernel_rfl)) (fun _ _ _ h => h) (Or.inl ⟨by rfl, ?_⟩) ?_ ?_
                 rotate_left
                 · intro w'
                   go_simp
                   with_reducible rfl
                 rotate_left
                 · simp only [Act.put, List.setIfInBounds_toArray, List.set_cons_zero, List.set_cons_succ, i64_w, i32_w]
                   rfl
                 refine one_ (i := 8) (N := some 6) #[true, true, true, true, true, true, true, true, true, false, false] rfl rfl (one_of HT_.out (by kernel_rfl)) (by decide) (fun K hK => ?_)
                 refine box_step ?hg (N := 6) ?hd (cs := #[.slice none 0 0]) (t := 44) ?hr ?_; (case hd => rfl); (case hg => rfl); (case hr => first | (go_simp; done) | (go_simp; rfl))
                 intro gb207 hg w49 hbox hb
                 have n0_ := Aside0.mk (Kd.R_below z5_5_ hb)
                 have n1_ := Aside0.mk (Kd.R_below z5_10_ hb)
                 have n2_ := Aside0.mk (blk_below (g := gb194) (o := .cells #[.slice A0_0 l0_0.length c0_0] 39 (0, 0)) z5_0_ hb)
                 have n3_ := Aside0.mk (blk_below (g := gb195) (o := .cells #[.int .i64 a1_0, .int .i64 a1_1, .int .i64 a1_2] 23 (0, 0)) z5_1_ hb)
                 have n4_ := Aside0.mk (below_step z5_12_ hb)
                 have n5_ := Aside0.mk (hbox)
                 have n6_ := Aside0.mk ((by rw [hg]; exact (below_size z5_12_) : w.heap.size ≤ gb207))
                 have n7_ := Aside0.mk ((by rw [hg]; exact (below_size z5_12_) : w.heap.size ≤ gb207))
                 have n8_ := Aside0.mk ((by rw [hg]; exact Nat.ne_of_lt (blk_lt (g := gb194) (o := .cells #[.slice A0_0 l0_0.length c0_0] 39 (0, 0)) z5_0_) : gb194 ≠ gb207))
                 have n9_ := Aside0.mk ((by rw [hg]; exact Nat.ne_of_gt (blk_lt (g := gb194) (o := .cells #[.slice A0_0 l0_0.length c0_0] 39 (0, 0)) z5_0_) : gb207 ≠ gb194))
                 have n10_ := Aside0.mk ((by rw [hg]; exact Nat.ne_of_lt (blk_lt (g := gb195) (o := .cells #[.int .i64 a1_0, .int .i64 a1_1, .int .i64 a1_2] 23 (0, 0)) z5_1_) : gb195 ≠ gb207))
                 have n11_ := Aside0.mk ((by rw [hg]; exact Nat.ne_of_gt (blk_lt (g := gb195) (o := .cells #[.int .i64 a1_0, .int .i64 a1_1, .int .i64 a1_2] 23 (0, 0)) z5_1_) : gb207 ≠ gb195))
                 clear HO199
                 clear HO205
                 clear BK194
                 clear BK195
                 clear HB
                 have HO199 := n0_
                 have HO205 := n1_
                 have BK194 := n2_
                 have BK195 := n3_
                 have HB := n4_
                 have BK207 := n5_
                 have GW207 := n6_
                 have GE207 := n7_
                 have NB194_207 := n8_
                 have NB207_194 := n9_
                 have NB195_207 := n10_
                 have NB207_195 := n11_
                 clear n0_ n1_ n2_ n3_ n4_ n5_ n6_ n7_ n8_ n9_ n10_ n11_
                 clear hb hbox hg
                 refine hK.out _ _ ⟨(blk_cell BK194.out 0).trans rfl, (blk_cell BK195.out 0).trans rfl, (blk_cell BK195.out 1).trans rfl, (blk_cell BK195.out 2).trans rfl⟩ (fun hHeld => ?_)
                 clear hK K
                 refine norm_ (a' := ?_) ?_ ?_
                 rotate_left
                 · show Act.put _ (some 6) _ = _
                   simp only [Act.put, List.setIfInBounds_toArray, List.set_cons_zero, List.set_cons_succ, i64_w, i32_w]
                   rfl
                 exact norm_ z5_18_ (hCont (.slice Ao47 t197.length co47, v204, gb207) _ ⟨hHeld, z5_28_, z5_29_, z5_0_, z5_1_, z5_3_, GW207.out, GE207.out, NB194_207.out, NB207_194.out, NB195_207.out, NB207_195.out, z5_7_⟩)
               skip
               refine box_step ?hg (N := 6) ?hd (cs := #[.slice none 0 0]) (t := 44) ?hr ?_; (case hd => rfl); (case hg => rfl); (case hr => first | (go_simp; done) | (go_simp; rfl))
               intro gb207 hg w47 hbox hb
               have n0_ := Aside0.mk (Kd.R_below z5_5_ hb)
               have n1_ := Aside0.mk (blk_below (g := gb194) (o := .cells #[.slice A0_0 l0_0.length c0_0] 39 (0, 0)) z5_0_ hb)
               have n2_ := Aside0.mk (blk_below (g := gb195) (o := .cells #[.int .i64 a1_0, .int .i64 a1_1, .int .i64 a1_2] 23 (0, 0)) z5_1_ hb)
               have n3_ := Aside0.mk (below_step z5_12_ hb)
               have n4_ := Aside0.mk (hbox)
               have n5_ := Aside0.mk ((by rw [hg]; exact (below_size z5_12_) : w.heap.size ≤ gb207))
               have n6_ := Aside0.mk ((by rw [hg]; exact (below_size z5_12_) : w.heap.size ≤ gb207))
               have n7_ := Aside0.mk ((by rw [hg]; exact Nat.ne_of_lt (blk_lt (g := gb194) (o := .cells #[.slice A0_0 l0_0.length c0_0] 39 (0, 0)) z5_0_) : gb194 ≠ gb207))
               have n8_ := Aside0.mk ((by rw [hg]; exact Nat.ne_of_gt (blk_lt (g := gb194) (o := .cells #[.slice A0_0 l0_0.length c0_0] 39 (0, 0)) z5_0_) : gb207 ≠ gb194))
               have n9_ := Aside0.mk ((by rw [hg]; exact Nat.ne_of_lt (blk_lt (g := gb195) (o := .cells #[.int .i64 a1_0, .int .i64 a1_1, .int .i64 a1_2] 23 (0, 0)) z5_1_) : gb195 ≠ gb207))
               have n10_ := Aside0.mk ((by rw [hg]; exact Nat.ne_of_gt (blk_lt (g := gb195) (o := .cells #[.int .i64 a1_0, .int .i64 a1_1, .int .i64 a1_2] 23 (0, 0)) z5_1_) : gb207 ≠ gb195))
               clear HO199
               clear BK194
               clear BK195
               clear HB
               have HO199 := n0_
               have BK194 := n1_
               have BK195 := n2_
               have HB := n3_
               have BK207 := n4_
               have GW207 := n5_
               have GE207 := n6_
               have NB194_207 := n7_
               have NB207_194 := n8_
               have NB195_207 := n9_
               have NB207_195 := n10_
               clear n0_ n1_ n2_ n3_ n4_ n5_ n6_ n7_ n8_ n9_ n10_
               clear hb hbox hg
               obtain ⟨Ao48, co48, eo48⟩ := Kd.R_slice HO199.out
               (first | subst eo48 | (injection eo48 with f1_ f2_ f3_; have f4_ := f1_.symm; have f5_ := f3_.symm; clear f1_ f2_ f3_; subst f4_; subst f5_))
               refine hK.out _ _ ⟨(blk_cell BK194.out 0).trans rfl, (blk_cell BK195.out 0).trans rfl, (blk_cell BK195.out 1).trans rfl, (blk_cell BK195.out 2).trans rfl⟩ (fun hHeld => ?_)
               clear hK K
               refine norm_ (a' := ?_) ?_ ?_
               rotate_left
               · show Act.put _ (some 6) _ = _
                 simp only [Act.put, List.setIfInBounds_toArray, List.set_cons_zero, List.set_cons_succ, i64_w, i32_w]
                 rfl
               refine one_ (i := 4) (N := some 26) #[true, true, true, true, true, false, false, false, true, false, false] rfl rfl (one_of HT_.out (by kernel_rfl)) (by decide) (fun K hK => ?_)
               refine goes_ Try.func21 (by kernel_rfl) rfl #[.agg #[.slice Ao48 t197.length co48], .agg #[.int .i64 t200, .int .i64 t201, .int .i64 t202]] (by rfl) rfl rfl z5_9_ ?_
               with_reducible refine (spec_AddClue.calls k _ _ t197 t200 t201 t202 t203 t206 _ ?side1 ?side2 A12.out).mono ?_
               (case side1 => repeat (first | exact (Kd.R_reads' HO199.out).2.2 | (with_reducible refine Kd.C_alloc ?_ _) | (with_reducible refine Kd.C_drewN ?_ _) | (with_reducible refine Kd.C_drew ?_)))
               (case side2 => exact (Kd.R_reads' HO199.out).2.1)
               rintro e w49 ⟨v204, rfl, ho0, hb⟩
               refine ⟨_, rfl, ?_⟩
               have n0_ := Aside0.mk (Kd.R_elder' z5_5_ (Kd.R_base ho0) hb)
               have n1_ := Aside0.mk (Kd.R_lower (Kd.R_new' ho0 (Kd.R_lt z5_5_)) (below_size z5_7_))
               have n2_ := Aside0.mk (blk_below (g := gb194) (o := .cells #[.slice A0_0 l0_0.length c0_0] 39 (0, 0)) z5_0_ hb)
               have n3_ := Aside0.mk (blk_below (g := gb195) (o := .cells #[.int .i64 a1_0, .int .i64 a1_1, .int .i64 a1_2] 23 (0, 0)) z5_1_ hb)
               have n4_ := Aside0.mk (blk_below (g := gb207) (o := .cells #[.slice none 0 0] 44 (0, 0)) z5_3_ hb)
               have n5_ := Aside0.mk (below_step z5_7_ hb)
               clear HO199
               clear BK194
               clear BK195
               clear BK207
               clear HB
               have HO199 := n0_
               have HO205 := n1_
               have BK194 := n2_
               have BK195 := n3_
               have BK207 := n4_
               have HB := n5_
               clear n0_ n1_ n2_ n3_ n4_ n5_
               (try clear hb)
               (try clear hb2)
               (try clear hk)
               (try clear hi)
               (try clear ho0)
               refine hK.out _ _ ⟨(blk_cell BK194.out 0).trans rfl, (blk_cell BK195.out 0).trans rfl, (blk_cell BK195.out 1).trans rfl, (blk_cell BK195.out 2).trans rfl⟩ (fun hHeld => ?_)
               clear hK K
               refine norm_ (a' := ?_) ?_ ?_
               rotate_left
               · show Act.put _ (some 26) _ = _
                 simp only [Act.put, List.setIfInBounds_toArray, List.set_cons_zero, List.set_cons_succ, i64_w, i32_w]
                 rfl
               refine pure_ (i := 5) (N := some 21) (v := ?_) (a' := ?_) #[true, true, true, true, true, true, false, false, true, false, false] rfl rfl (any_of HT_.out (by kernel_rfl)) (fun _ _ _ h => h) (Or.inl ⟨by rfl, ?_⟩) ?_ ?_
               rotate_left
               · intro w'
                 go_simp
                 with_reducible rfl
               rotate_left
               · simp only [Act.put, List.setIfInBounds_toArray, List.set_cons_zero, List.set_cons_succ, i64_w, i32_w]
                 rfl
               refine pure_ (i := 6) (N := some 27) (v := ?_) (a' := ?_) #[true, true, true, true, true, true, true, false, true, false, false] rfl rfl (any_of HT_.out (by kernel_rfl)) (fun _ _ _ h => h) (Or.inl ⟨by rfl, ?_⟩) ?_ ?_
               rotate_left
               · intro w'
                 go_simp
                 with_reducible rfl
               rotate_left
               · simp only [Act.put, List.setIfInBounds_toArray, List.set_cons_zero, List.set_cons_succ, i64_w, i32_w]
                 rfl
               refine pure_ (i := 7) (N := some 28) (v := ?_) (a' := ?_) #[true, true, true, true, true, true, true, true, true, false, false] rfl rfl (any_of HT_.out (by kernel_rfl)) (fun _ _ _ h => h) (Or.inl ⟨by rfl, ?_⟩) ?_ ?_
               rotate_left
               · intro w'
                 go_simp
                 with_reducible rfl
               rotate_left
               · simp only [Act.put, List.setIfInBounds_toArray, List.set_cons_zero, List.set_cons_succ, i64_w, i32_w]
                 rfl
               exact norm_ z5_18_ (hCont (.slice Ao48 t197.length co48, v204, gb207) _ ⟨hHeld, z5_28_, z5_29_, z5_0_, z5_1_, z5_3_, GW207.out, GE207.out, NB194_207.out, NB207_194.out, NB195_207.out, NB207_195.out, z5_7_⟩)
             skip
             refine box_step ?hg (N := 6) ?hd (cs := #[.slice none 0 0]) (t := 44) ?hr ?_; (case hd => rfl); (case hg => rfl); (case hr => first | (go_simp; done) | (go_simp; rfl))
             intro gb207 hg w46 hbox hb
             have n0_ := Aside0.mk (Kd.R_below z5_5_ hb)
             have n1_ := Aside0.mk (blk_below (g := gb194) (o := .cells #[.slice A0_0 l0_0.length c0_0] 39 (0, 0)) z5_0_ hb)
             have n2_ := Aside0.mk (blk_below (g := gb195) (o := .cells #[.int .i64 a1_0, .int .i64 a1_1, .int .i64 a1_2] 23 (0, 0)) z5_1_ hb)
             have n3_ := Aside0.mk (below_step z5_12_ hb)
             have n4_ := Aside0.mk (hbox)
             have n5_ := Aside0.mk ((by rw [hg]; exact (below_size z5_12_) : w.heap.size ≤ gb207))
             have n6_ := Aside0.mk ((by rw [hg]; exact (below_size z5_12_) : w.heap.size ≤ gb207))
             have n7_ := Aside0.mk ((by rw [hg]; exact Nat.ne_of_lt (blk_lt (g := gb194) (o := .cells #[.slice A0_0 l0_0.length c0_0] 39 (0, 0)) z5_0_) : gb194 ≠ gb207))
             have n8_ := Aside0.mk ((by rw [hg]; exact Nat.ne_of_gt (blk_lt (g := gb194) (o := .cells #[.slice A0_0 l0_0.length c0_0] 39 (0, 0)) z5_0_) : gb207 ≠ gb194))
             have n9_ := Aside0.mk ((by rw [hg]; exact Nat.ne_of_lt (blk_lt (g := gb195) (o := .cells #[.int .i64 a1_0, .int .i64 a1_1, .int .i64 a1_2] 23 (0, 0)) z5_1_) : gb195 ≠ gb207))
             have n10_ := Aside0.mk ((by rw [hg]; exact Nat.ne_of_gt (blk_lt (g := gb195) (o := .cells #[.int .i64 a1_0, .int .i64 a1_1, .int .i64 a1_2] 23 (0, 0)) z5_1_) : gb207 ≠ gb195))
             clear HO199
             clear BK194
             clear BK195
             clear HB
             have HO199 := n0_
             have BK194 := n1_
             have BK195 := n2_
             have HB := n3_
             have BK207 := n4_
             have GW207 := n5_
             have GE207 := n6_
             have NB194_207 := n7_
             have NB207_194 := n8_
             have NB195_207 := n9_
             have NB207_195 := n10_
             clear n0_ n1_ n2_ n3_ n4_ n5_ n6_ n7_ n8_ n9_ n10_
             clear hb hbox hg
             refine hK.out _ _ ⟨(blk_cell BK194.out 0).trans rfl, (blk_cell BK195.out 0).trans rfl, (blk_cell BK195.out 1).trans rfl, (blk_cell BK195.out 2).trans rfl⟩ (fun hHeld => ?_)
             clear hK K
             refine norm_ (a' := ?_) ?_ ?_
             rotate_left
             · show Act.put _ (some 6) _ = _
               simp only [Act.put, List.setIfInBounds_toArray, List.set_cons_zero, List.set_cons_succ, i64_w, i32_w]
               rfl
             refine one_ (i := 3) (N := some 25) #[true, true, true, true, false, false, false, false, true, false, false] rfl rfl (one_of HT_.out (by kernel_rfl)) (by decide) (fun K hK => ?_)
             refine goes_ Try.func9 (by kernel_rfl) rfl #[.agg #[.int .i64 a1_0, .int .i64 a1_1, .int .i64 a1_2]] (by rfl) rfl rfl z5_9_ ?_
             with_reducible refine (laws_toClue.calls a1_0 a1_1 a1_2 t200 t201 t202 _ A11.out).mono ?_
             rintro e w47 ⟨rfl, hb⟩
             refine ⟨_, rfl, ?_⟩
             have n0_ := Aside0.mk (Kd.R_below z5_5_ hb)
             have n1_ := Aside0.mk (blk_below (g := gb194) (o := .cells #[.slice A0_0 l0_0.length c0_0] 39 (0, 0)) z5_0_ hb)
             have n2_ := Aside0.mk (blk_below (g := gb195) (o := .cells #[.int .i64 a1_0, .int .i64 a1_1, .int .i64 a1_2] 23 (0, 0)) z5_1_ hb)
             have n3_ := Aside0.mk (blk_below (g := gb207) (o := .cells #[.slice none 0 0] 44 (0, 0)) z5_3_ hb)
             have n4_ := Aside0.mk (below_step z5_7_ hb)
             clear HO199
             clear BK194
             clear BK195
             clear BK207
             clear HB
             have HO199 := n0_
             have BK194 := n1_
             have BK195 := n2_
             have BK207 := n3_
             have HB := n4_
             clear n0_ n1_ n2_ n3_ n4_
             (try clear hb)
             (try clear hb2)
             (try clear hk)
             (try clear hi)
             obtain ⟨Ao48, co48, eo48⟩ := Kd.R_slice HO199.out
             (first | subst eo48 | (injection eo48 with f1_ f2_ f3_; have f4_ := f1_.symm; have f5_ := f3_.symm; clear f1_ f2_ f3_; subst f4_; subst f5_))
             refine hK.out _ _ ⟨(blk_cell BK194.out 0).trans rfl, (blk_cell BK195.out 0).trans rfl, (blk_cell BK195.out 1).trans rfl, (blk_cell BK195.out 2).trans rfl⟩ (fun hHeld => ?_)
             clear hK K
             refine norm_ (a' := ?_) ?_ ?_
             rotate_left
             · show Act.put _ (some 25) _ = _
               simp only [Act.put, List.setIfInBounds_toArray, List.set_cons_zero, List.set_cons_succ, i64_w, i32_w]
               rfl
             refine one_ (i := 4) (N := some 26) #[true, true, true, true, true, false, false, false, true, false, false] rfl rfl (one_of HT_.out (by kernel_rfl)) (by decide) (fun K hK => ?_)
             refine goes_ Try.func21 (by kernel_rfl) rfl #[.agg #[.slice Ao48 t197.length co48], .agg #[.int .i64 t200, .int .i64 t201, .int .i64 t202]] (by rfl) rfl rfl z5_9_ ?_
             with_reducible refine (spec_AddClue.calls k _ _ t197 t200 t201 t202 t203 t206 _ ?side1 ?side2 A12.out).mono ?_
             (case side1 => repeat (first | exact (Kd.R_reads' HO199.out).2.2 | (with_reducible refine Kd.C_alloc ?_ _) | (with_reducible refine Kd.C_drewN ?_ _) | (with_reducible refine Kd.C_drew ?_)))
             (case side2 => exact (Kd.R_reads' HO199.out).2.1)
             rintro e w49 ⟨v204, rfl, ho0, hb⟩
             refine ⟨_, rfl, ?_⟩
             have n0_ := Aside0.mk (Kd.R_elder' z5_5_ (Kd.R_base ho0) hb)
             have n1_ := Aside0.mk (Kd.R_lower (Kd.R_new' ho0 (Kd.R_lt z5_5_)) (below_size z5_7_))
             have n2_ := Aside0.mk (blk_below (g := gb194) (o := .cells #[.slice A0_0 l0_0.length c0_0] 39 (0, 0)) z5_0_ hb)
             have n3_ := Aside0.mk (blk_below (g := gb195) (o := .cells #[.int .i64 a1_0, .int .i64 a1_1, .int .i64 a1_2] 23 (0, 0)) z5_1_ hb)
             have n4_ := Aside0.mk (blk_below (g := gb207) (o := .cells #[.slice none 0 0] 44 (0, 0)) z5_3_ hb)
             have n5_ := Aside0.mk (below_step z5_7_ hb)
             clear HO199
             clear BK194
             clear BK195
             clear BK207
             clear HB
             have HO199 := n0_
             have HO205 := n1_
             have BK194 := n2_
             have BK195 := n3_
             have BK207 := n4_
             have HB := n5_
             clear n0_ n1_ n2_ n3_ n4_ n5_
             (try clear hb)
             (try clear hb2)
             (try clear hk)
             (try clear hi)
             (try clear ho0)
             refine hK.out _ _ ⟨(blk_cell BK194.out 0).trans rfl, (blk_cell BK195.out 0).trans rfl, (blk_cell BK195.out 1).trans rfl, (blk_cell BK195.out 2).trans rfl⟩ (fun hHeld => ?_)
             clear hK K
             refine norm_ (a' := ?_) ?_ ?_
             rotate_left
             · show Act.put _ (some 26) _ = _
               simp only [Act.put, List.setIfInBounds_toArray, List.set_cons_zero, List.set_cons_succ, i64_w, i32_w]
               rfl
             refine pure_ (i := 5) (N := some 21) (v := ?_) (a' := ?_) #[true, true, true, true, true, true, false, false, true, false, false] rfl rfl (any_of HT_.out (by kernel_rfl)) (fun _ _ _ h => h) (Or.inl ⟨by rfl, ?_⟩) ?_ ?_
             rotate_left
             · intro w'
               go_simp
               with_reducible rfl
             rotate_left
             · simp only [Act.put, List.setIfInBounds_toArray, List.set_cons_zero, List.set_cons_succ, i64_w, i32_w]
               rfl
             refine pure_ (i := 6) (N := some 27) (v := ?_) (a' := ?_) #[true, true, true, true, true, true, true, false, true, false, false] rfl rfl (any_of HT_.out (by kernel_rfl)) (fun _ _ _ h => h) (Or.inl ⟨by rfl, ?_⟩) ?_ ?_
             rotate_left
             · intro w'
               go_simp
               with_reducible rfl
             rotate_left
             · simp only [Act.put, List.setIfInBounds_toArray, List.set_cons_zero, List.set_cons_succ, i64_w, i32_w]
               rfl
             refine pure_ (i := 7) (N := some 28) (v := ?_) (a' := ?_) #[true, true, true, true, true, true, true, true, true, false, false] rfl rfl (any_of HT_.out (by kernel_rfl)) (fun _ _ _ h => h) (Or.inl ⟨by rfl, ?_⟩) ?_ ?_
             rotate_left
             · intro w'
               go_simp
               with_reducible rfl
             rotate_left
             · simp only [Act.put, List.setIfInBounds_toArray, List.set_cons_zero, List.set_cons_succ, i64_w, i32_w]
               rfl
             exact norm_ z5_18_ (hCont (.slice Ao48 t197.length co48, v204, gb207) _ ⟨hHeld, z5_28_, z5_29_, z5_0_, z5_1_, z5_3_, GW207.out, GE207.out, NB194_207.out, NB207_194.out, NB195_207.out, NB207_195.out, z5_7_⟩)
           skip
           refine box_step ?hg (N := 6) ?hd (cs := #[.slice none 0 0]) (t := 44) ?hr ?_; (case hd => rfl); (case hg => rfl); (case hr => first | (go_simp; done) | (go_simp; rfl))
           intro gb207 hg w45 hbox hb
           have n0_ := Aside0.mk (blk_below (g := gb194) (o := .cells #[.slice A0_0 l0_0.length c0_0] 39 (0, 0)) z5_0_ hb)
           have n1_ := Aside0.mk (blk_below (g := gb195) (o := .cells #[.int .i64 a1_0, .int .i64 a1_1, .int .i64 a1_2] 23 (0, 0)) z5_1_ hb)
           have n2_ := Aside0.mk (below_step z5_12_ hb)
           have n3_ := Aside0.mk (hbox)
           have n4_ := Aside0.mk ((by rw [hg]; exact (below_size z5_12_) : w.heap.size ≤ gb207))
           have n5_ := Aside0.mk ((by rw [hg]; exact (below_size z5_12_) : w.heap.size ≤ gb207))
           have n6_ := Aside0.mk ((by rw [hg]; exact Nat.ne_of_lt (blk_lt (g := gb194) (o := .cells #[.slice A0_0 l0_0.length c0_0] 39 (0, 0)) z5_0_) : gb194 ≠ gb207))
           have n7_ := Aside0.mk ((by rw [hg]; exact Nat.ne_of_gt (blk_lt (g := gb194) (o := .cells #[.slice A0_0 l0_0.length c0_0] 39 (0, 0)) z5_0_) : gb207 ≠ gb194))
           have n8_ := Aside0.mk ((by rw [hg]; exact Nat.ne_of_lt (blk_lt (g := gb195) (o := .cells #[.int .i64 a1_0, .int .i64 a1_1, .int .i64 a1_2] 23 (0, 0)) z5_1_) : gb195 ≠ gb207))
           have n9_ := Aside0.mk ((by rw [hg]; exact Nat.ne_of_gt (blk_lt (g := gb195) (o := .cells #[.int .i64 a1_0, .int .i64 a1_1, .int .i64 a1_2] 23 (0, 0)) z5_1_) : gb207 ≠ gb195))
           clear BK194
           clear BK195
           clear HB
           have BK194 := n0_
           have BK195 := n1_
           have HB := n2_
           have BK207 := n3_
           have GW207 := n4_
           have GE207 := n5_
           have NB194_207 := n6_
           have NB207_194 := n7_
           have NB195_207 := n8_
           have NB207_195 := n9_
           clear n0_ n1_ n2_ n3_ n4_ n5_ n6_ n7_ n8_ n9_
           clear hb hbox hg
           refine hK.out _ _ ⟨(blk_cell BK194.out 0).trans rfl, (blk_cell BK195.out 0).trans rfl, (blk_cell BK195.out 1).trans rfl, (blk_cell BK195.out 2).trans rfl⟩ (fun hHeld => ?_)
           clear hK K
           refine norm_ (a' := ?_) ?_ ?_
           rotate_left
           · show Act.put _ (some 6) _ = _
             simp only [Act.put, List.setIfInBounds_toArray, List.set_cons_zero, List.set_cons_succ, i64_w, i32_w]
             rfl
           refine one_ (i := 1) (N := some 23) #[true, true, true, false, false, false, false, false, true, false, false] rfl rfl (one_of HT_.out (by kernel_rfl)) (by decide) (fun K hK => ?_)
           refine goes_ Try.func18 (by kernel_rfl) rfl #[.agg #[.slice A0_0 l0_0.length c0_0]] (by rfl) rfl rfl z5_9_ ?_
           with_reducible refine (laws_toPuzzle.calls k _ _ l0_0 t197 _ ?side1 ?side2 A10.out).mono ?_
           (case side1 => repeat (first | exact (Kd.C_below HR0_0.out HB.out) | (with_reducible refine Kd.C_alloc ?_ _) | (with_reducible refine Kd.C_drewN ?_ _) | (with_reducible refine Kd.C_drew ?_)))
           (case side2 => exact HC0_0.out)
           rintro e w46 ⟨v198, rfl, ho0, hb⟩
           refine ⟨_, rfl, ?_⟩
           have n0_ := Aside0.mk (Kd.R_lower ho0 (below_size z5_7_))
           have n1_ := Aside0.mk (blk_below (g := gb194) (o := .cells #[.slice A0_0 l0_0.length c0_0] 39 (0, 0)) z5_0_ hb)
           have n2_ := Aside0.mk (blk_below (g := gb195) (o := .cells #[.int .i64 a1_0, .int .i64 a1_1, .int .i64 a1_2] 23 (0, 0)) z5_1_ hb)
           have n3_ := Aside0.mk (blk_below (g := gb207) (o := .cells #[.slice none 0 0] 44 (0, 0)) z5_3_ hb)
           have n4_ := Aside0.mk (below_step z5_7_ hb)
           clear BK194
           clear BK195
           clear BK207
           clear HB
           have HO199 := n0_
           have BK194 := n1_
           have BK195 := n2_
           have BK207 := n3_
           have HB := n4_
           clear n0_ n1_ n2_ n3_ n4_
           (try clear hb)
           (try clear hb2)
           (try clear hk)
           (try clear hi)
           (try clear ho0)
           refine hK.out _ _ ⟨(blk_cell BK194.out 0).trans rfl, (blk_cell BK195.out 0).trans rfl, (blk_cell BK195.out 1).trans rfl, (blk_cell BK195.out 2).trans rfl⟩ (fun hHeld => ?_)
           clear hK K
           refine norm_ (a' := ?_) ?_ ?_
           rotate_left
           · show Act.put _ (some 23) _ = _
             simp only [Act.put, List.setIfInBounds_toArray, List.set_cons_zero, List.set_cons_succ, i64_w, i32_w]
             rfl
           refine one_ (i := 3) (N := some 25) #[true, true, true, true, false, false, false, false, true, false, false] rfl rfl (one_of HT_.out (by kernel_rfl)) (by decide) (fun K hK => ?_)
           refine goes_ Try.func9 (by kernel_rfl) rfl #[.agg #[.int .i64 a1_0, .int .i64 a1_1, .int .i64 a1_2]] (by rfl) rfl rfl z5_9_ ?_
           with_reducible refine (laws_toClue.calls a1_0 a1_1 a1_2 t200 t201 t202 _ A11.out).mono ?_
           rintro e w47 ⟨rfl, hb⟩
           refine ⟨_, rfl, ?_⟩
           have n0_ := Aside0.mk (Kd.R_below z5_5_ hb)
           have n1_ := Aside0.mk (blk_below (g := gb194) (o := .cells #[.slice A0_0 l0_0.length c0_0] 39 (0, 0)) z5_0_ hb)
           have n2_ := Aside0.mk (blk_below (g := gb195) (o := .cells #[.int .i64 a1_0, .int .i64 a1_1, .int .i64 a1_2] 23 (0, 0)) z5_1_ hb)
           have n3_ := Aside0.mk (blk_below (g := gb207) (o := .cells #[.slice none 0 0] 44 (0, 0)) z5_3_ hb)
           have n4_ := Aside0.mk (below_step z5_7_ hb)
           clear HO199
           clear BK194
           clear BK195
           clear BK207
           clear HB
           have HO199 := n0_
           have BK194 := n1_
           have BK195 := n2_
           have BK207 := n3_
           have HB := n4_
           clear n0_ n1_ n2_ n3_ n4_
           (try clear hb)
           (try clear hb2)
           (try clear hk)
           (try clear hi)
           obtain ⟨Ao48, co48, eo48⟩ := Kd.R_slice HO199.out
           (first | subst eo48 | (injection eo48 with f1_ f2_ f3_; have f4_ := f1_.symm; have f5_ := f3_.symm; clear f1_ f2_ f3_; subst f4_; subst f5_))
           refine hK.out _ _ ⟨(blk_cell BK194.out 0).trans rfl, (blk_cell BK195.out 0).trans rfl, (blk_cell BK195.out 1).trans rfl, (blk_cell BK195.out 2).trans rfl⟩ (fun hHeld => ?_)
           clear hK K
           refine norm_ (a' := ?_) ?_ ?_
           rotate_left
           · show Act.put _ (some 25) _ = _
             simp only [Act.put, List.setIfInBounds_toArray, List.set_cons_zero, List.set_cons_succ, i64_w, i32_w]
             rfl
           refine one_ (i := 4) (N := some 26) #[true, true, true, true, true, false, false, false, true, false, false] rfl rfl (one_of HT_.out (by kernel_rfl)) (by decide) (fun K hK => ?_)
           refine goes_ Try.func21 (by kernel_rfl) rfl #[.agg #[.slice Ao48 t197.length co48], .agg #[.int .i64 t200, .int .i64 t201, .int .i64 t202]] (by rfl) rfl rfl z5_9_ ?_
           with_reducible refine (spec_AddClue.calls k _ _ t197 t200 t201 t202 t203 t206 _ ?side1 ?side2 A12.out).mono ?_
           (case side1 => repeat (first | exact (Kd.R_reads' HO199.out).2.2 | (with_reducible refine Kd.C_alloc ?_ _) | (with_reducible refine Kd.C_drewN ?_ _) | (with_reducible refine Kd.C_drew ?_)))
           (case side2 => exact (Kd.R_reads' HO199.out).2.1)
           rintro e w49 ⟨v204, rfl, ho0, hb⟩
           refine ⟨_, rfl, ?_⟩
           have n0_ := Aside0.mk (Kd.R_elder' z5_5_ (Kd.R_base ho0) hb)
           have n1_ := Aside0.mk (Kd.R_lower (Kd.R_new' ho0 (Kd.R_lt z5_5_)) (below_size z5_7_))
           have n2_ := Aside0.mk (blk_below (g := gb194) (o := .cells #[.slice A0_0 l0_0.length c0_0] 39 (0, 0)) z5_0_ hb)
           have n3_ := Aside0.mk (blk_below (g := gb195) (o := .cells #[.int .i64 a1_0, .int .i64 a1_1, .int .i64 a1_2] 23 (0, 0)) z5_1_ hb)
           have n4_ := Aside0.mk (blk_below (g := gb207) (o := .cells #[.slice none 0 0] 44 (0, 0)) z5_3_ hb)
           have n5_ := Aside0.mk (below_step z5_7_ hb)
           clear HO199
           clear BK194
           clear BK195
           clear BK207
           clear HB
           have HO199 := n0_
           have HO205 := n1_
           have BK194 := n2_
           have BK195 := n3_
           have BK207 := n4_
           have HB := n5_
           clear n0_ n1_ n2_ n3_ n4_ n5_
           (try clear hb)
           (try clear hb2)
           (try clear hk)
           (try clear hi)
           (try clear ho0)
           refine hK.out _ _ ⟨(blk_cell BK194.out 0).trans rfl, (blk_cell BK195.out 0).trans rfl, (blk_cell BK195.out 1).trans rfl, (blk_cell BK195.out 2).trans rfl⟩ (fun hHeld => ?_)
           clear hK K
           refine norm_ (a' := ?_) ?_ ?_
           rotate_left
           · show Act.put _ (some 26) _ = _
             simp only [Act.put, List.setIfInBounds_toArray, List.set_cons_zero, List.set_cons_succ, i64_w, i32_w]
             rfl
           refine pure_ (i := 5) (N := some 21) (v := ?_) (a' := ?_) #[true, true, true, true, true, true, false, false, true, false, false] rfl rfl (any_of HT_.out (by kernel_rfl)) (fun _ _ _ h => h) (Or.inl ⟨by rfl, ?_⟩) ?_ ?_
           rotate_left
           · intro w'
             go_simp
             with_reducible rfl
           rotate_left
           · simp only [Act.put, List.setIfInBounds_toArray, List.set_cons_zero, List.set_cons_succ, i64_w, i32_w]
             rfl
           refine pure_ (i := 6) (N := some 27) (v := ?_) (a' := ?_) #[true, true, true, true, true, true, true, false, true, false, false] rfl rfl (any_of HT_.out (by kernel_rfl)) (fun _ _ _ h => h) (Or.inl ⟨by rfl, ?_⟩) ?_ ?_
           rotate_left
           · intro w'
             go_simp
             with_reducible rfl
           rotate_left
           · simp only [Act.put, List.setIfInBounds_toArray, List.set_cons_zero, List.set_cons_succ, i64_w, i32_w]
             rfl
           refine pure_ (i := 7) (N := some 28) (v := ?_) (a' := ?_) #[true, true, true, true, true, true, true, true, true, false, false] rfl rfl (any_of HT_.out (by kernel_rfl)) (fun _ _ _ h => h) (Or.inl ⟨by rfl, ?_⟩) ?_ ?_
           rotate_left
           · intro w'
             go_simp
             with_reducible rfl
           rotate_left
           · simp only [Act.put, List.setIfInBounds_toArray, List.set_cons_zero, List.set_cons_succ, i64_w, i32_w]
             rfl
           exact norm_ z5_18_ (hCont (.slice Ao48 t197.length co48, v204, gb207) _ ⟨hHeld, z5_28_, z5_29_, z5_0_, z5_1_, z5_3_, GW207.out, GE207.out, NB194_207.out, NB207_194.out, NB195_207.out, NB207_195.out, z5_7_⟩)
         rintro ⟨v198, v204, gb207⟩ w50 ⟨hS_, h0_, h1_, h2_, h3_, h4_, h5_, h6_, h7_, h8_, h9_, h10_, h11_⟩
         have n0_ : Aside0 (Kd.R k25 25 w50 w.heap.size (fun k_ => some k_ ≠ (v204 : Value).ownBlock) v198 t197) := ⟨h0_⟩
         have n1_ : Aside0 (Kd.R k25 25 w50 w.heap.size (fun k_ => some k_ ≠ (v198 : Value).ownBlock) v204 t203) := ⟨h1_⟩
         have n2_ : Aside0 (w50.heap[gb194]? = some (.cells #[.slice A0_0 l0_0.length c0_0] 39 (0, 0))) := ⟨h2_⟩
         have n3_ : Aside0 (w50.heap[gb195]? = some (.cells #[.int .i64 a1_0, .int .i64 a1_1, .int .i64 a1_2] 23 (0, 0))) := ⟨h3_⟩
         have n4_ : Aside0 (w50.heap[gb207]? = some (.cells #[.slice none 0 0] 44 (0, 0))) := ⟨h4_⟩
         have n5_ : Aside0 (w.heap.size ≤ gb207) := ⟨h5_⟩
         have n6_ : Aside0 (w.heap.size ≤ gb207) := ⟨h6_⟩
         have n7_ : Aside0 (gb194 ≠ gb207) := ⟨h7_⟩
         have n8_ : Aside0 (gb207 ≠ gb194) := ⟨h8_⟩
         have n9_ : Aside0 (gb195 ≠ gb207) := ⟨h9_⟩
         have n10_ : Aside0 (gb207 ≠ gb195) := ⟨h10_⟩
         have n11_ : Aside0 (Below w.heap.size w w50) := ⟨h11_⟩
         clear BK194
         clear BK195
         clear HB
         clear h0_ h1_ h2_ h3_ h4_ h5_ h6_ h7_ h8_ h9_ h10_ h11_
         have HO199 := n0_
         have HO205 := n1_
         have BK194 := n2_
         have BK195 := n3_
         have BK207 := n4_
         have GW207 := n5_
         have GE207 := n6_
         have NB194_207 := n7_
         have NB207_194 := n8_
         have NB195_207 := n9_
         have NB207_195 := n10_
         have HB := n11_
         clear n0_ n1_ n2_ n3_ n4_ n5_ n6_ n7_ n8_ n9_ n10_ n11_
         have hHeld : w50.cell? ⟨gb194, 0, none⟩ = some (.slice A0_0 l0_0.length c0_0) ∧ w50.cell? ⟨gb195, 0, none⟩ = some (.int .i64 a1_0) ∧ w50.cell? ⟨gb195, 1, none⟩ = some (.int .i64 a1_1) ∧ w50.cell? ⟨gb195, 2, none⟩ = some (.int .i64 a1_2) := hS_
         obtain ⟨Ao51, co51, eo51⟩ := Kd.R_slice HO205.out
         (first | subst eo51 | (injection eo51 with f1_ f2_ f3_; have f4_ := f1_.symm; have f5_ := f3_.symm; clear f1_ f2_ f3_; subst f4_; subst f5_))
         refine norm_ (a' := ?_) ?_ ?_
         rotate_left
         · simp only [putAll, Act.put, List.setIfInBounds_toArray, List.set_cons_zero, List.set_cons_succ]
           rfl
         refine one_ (i := 9) (N := none) #[true, true, true, true, true, true, true, true, true, true, false] rfl rfl (one_of HT_.out (by kernel_rfl)) (by decide) (fun K hK => ?_)
         have hs52 : w50.cell? ⟨gb207, 0, none⟩ = some (.slice none 0 0) := (blk_cell BK207.out 0).trans rfl
         have hfs52 := blk_frozen BK207.out 0
         have hns52_0 := NB194_207.out
         have hns52_1 := NB195_207.out
         have hms52_0 := NB207_194.out
         have hms52_1 := NB207_195.out
         refine skip_ (w1 := ?_) (by rfl) rfl ?_ ?_
         rotate_left
         · go_simp
           rfl
         refine hK.out _ _ ⟨((cell_far (p := ⟨gb207, _, none⟩) NB194_207.out _).trans (hHeld.1)), ((cell_far (p := ⟨gb207, _, none⟩) NB195_207.out _).trans (hHeld.2.1)), ((cell_far (p := ⟨gb207, _, none⟩) NB195_207.out _).trans (hHeld.2.2.1)), ((cell_far (p := ⟨gb207, _, none⟩) NB195_207.out _).trans (hHeld.2.2.2))⟩ (fun hHeld => ?_)
         clear hK K
         refine pure_ (i := 10) (N := some 7) (v := ?_) (a' := ?_) #[true, true, true, true, true, true, true, true, true, true, true] rfl rfl (any_of HT_.out (by kernel_rfl)) (fun _ _ _ h => h) (Or.inl ⟨by rfl, ?_⟩) ?_ ?_
         rotate_left
         · intro w'
           go_simp
           with_reducible rfl
         rotate_left
         · simp only [Act.put, List.setIfInBounds_toArray, List.set_cons_zero, List.set_cons_succ, i64_w, i32_w]
           rfl
         refine done_ (done_of HT_.out (by kernel_rfl)) ?_
         have hnb53 := NB194_207.out
         have hnc53 := NB207_194.out
         have hcz54_0 : w50.cell? ⟨gb194, 0, none⟩ = some (.slice A0_0 l0_0.length c0_0) := (blk_cell BK194.out 0).trans rfl
         have hfz54_0 := blk_frozen BK194.out 0
         try go_wp2_with (first | ((with_reducible refine gate_callee (f := 18) rfl ?_); refine goesL_ (some 30) rfl rfl Try.func18 (by kernel_rfl) rfl #[.agg #[.slice A0_0 l0_0.length c0_0]] rfl z5_9_ ?_; (with_reducible refine (laws_toPuzzle.calls k _ _ l0_0 t208 _ ?side1 ?side2 A13.out).mono ?_); (case side1 => exact Kd.C_below HR0_0.out z5_7_); (case side2 => exact HC0_0.out); rintro e w55 ⟨v209, rfl, ho0, hb⟩; refine ⟨_, rfl, ?_⟩; have n0_ := Aside0.mk (Kd.R_elder' (by (with_reducible repeat (first | apply Kd.R_alloc | apply Kd.R_drewN | apply Kd.R_drew)); exact (Kd.R_mono (Kd.R_far (p := ⟨gb207, 0, none⟩) (Kd.R_types HO199.out BK207.out (by decide)) (fun _ hk => hk.2) (.slice Ao51 t203.length co51)) (fun _ h_ => h_.1))) (Kd.R_base ho0) hb); have n1_ := Aside0.mk (Kd.R_elder' (by (with_reducible repeat (first | apply Kd.R_alloc | apply Kd.R_drewN | apply Kd.R_drew)); exact (Kd.R_mono (Kd.R_far (p := ⟨gb207, 0, none⟩) (Kd.R_types HO205.out BK207.out (by decide)) (fun _ hk => hk.2) (.slice Ao51 t203.length co51)) (fun _ h_ => h_.1))) (Kd.R_base ho0) hb); have n2_ := Aside0.mk (Kd.R_lower (Kd.R_new' (Kd.R_new' ho0 (Kd.R_lt (by (with_reducible repeat (first | apply Kd.R_alloc | apply Kd.R_drewN | apply Kd.R_drew)); exact (Kd.R_mono (Kd.R_far (p := ⟨gb207, 0, none⟩) (Kd.R_types HO199.out BK207.out (by decide)) (fun _ hk => hk.2) (.slice Ao51 t203.length co51)) (fun _ h_ => h_.1))))) (Kd.R_lt (by (with_reducible repeat (first | apply Kd.R_alloc | apply Kd.R_drewN | apply Kd.R_drew)); exact (Kd.R_mono (Kd.R_far (p := ⟨gb207, 0, none⟩) (Kd.R_types HO205.out BK207.out (by decide)) (fun _ hk => hk.2) (.slice Ao51 t203.length co51)) (fun _ h_ => h_.1))))) (below_size z5_7_)); have n3_ := Aside0.mk (blk_below (g := gb194) (o := .cells #[.slice A0_0 l0_0.length c0_0] 39 (0, 0)) (by (with_reducible repeat (first | refine blk_drewN ?_ _ | refine blk_drew ?_ | refine blk_alloc ?_ _)); refine blk_far ?_ NB194_207.out _; (with_reducible repeat (first | refine blk_drewN ?_ _ | refine blk_drew ?_ | refine blk_alloc ?_ _)); exact BK194.out) hb); have n4_ := Aside0.mk (blk_below (g := gb195) (o := .cells #[.int .i64 a1_0, .int .i64 a1_1, .int .i64 a1_2] 23 (0, 0)) (by (with_reducible repeat (first | refine blk_drewN ?_ _ | refine blk_drew ?_ | refine blk_alloc ?_ _)); refine blk_far ?_ NB195_207.out _; (with_reducible repeat (first | refine blk_drewN ?_ _ | refine blk_drew ?_ | refine blk_alloc ?_ _)); exact BK195.out) hb); have n5_ := Aside0.mk (blk_below (g := gb207) (o := .cells #[.slice Ao51 t203.length co51] 44 (0, 0)) (by (with_reducible repeat (first | refine blk_drewN ?_ _ | refine blk_drew ?_ | refine blk_alloc ?_ _)); refine blk_put (cs := #[.slice none 0 0]) ?_ 0 _ rfl; (with_reducible repeat (first | refine blk_drewN ?_ _ | refine blk_drew ?_ | refine blk_alloc ?_ _)); exact BK207.out) hb); have n6_ := Aside0.mk (below_step z5_7_ hb); clear HO199; clear HO205; clear BK194; clear BK195; clear BK207; clear HB; have HO199 := n0_; have HO205 := n1_; have HO210 := n2_; have BK194 := n3_; have BK195 := n4_; have BK207 := n5_; have HB := n6_; clear n0_ n1_ n2_ n3_ n4_ n5_ n6_; (try clear hb); (try clear hb2); (try clear hk); (try clear hi); (try clear ho0)) | ((with_reducible refine gate_dst (N := 8) rfl ?_); refine box_event ?hg (N := 8) ?hd (cs := #[.slice none 0 0]) (t := 44) ?hr ?_; (case hd => rfl); (case hg => rfl); (case hr => first | (go_simp; done) | (go_simp; rfl)); intro gb211 hg w56 hbox hb; have n0_ := Aside0.mk (Kd.R_below z5_5_ hb); have n1_ := Aside0.mk (Kd.R_below z5_10_ hb); have n2_ := Aside0.mk (Kd.R_below z5_11_ hb); have n3_ := Aside0.mk (blk_below (g := gb194) (o := .cells #[.slice A0_0 l0_0.length c0_0] 39 (0, 0)) z5_0_ hb); have n4_ := Aside0.mk (blk_below (g := gb195) (o := .cells #[.int .i64 a1_0, .int .i64 a1_1, .int .i64 a1_2] 23 (0, 0)) z5_1_ hb); have n5_ := Aside0.mk (blk_below (g := gb207) (o := .cells #[.slice Ao51 t203.length co51] 44 (0, 0)) z5_3_ hb); have n6_ := Aside0.mk (below_step z5_7_ hb); have n7_ := Aside0.mk (hbox); have n8_ := Aside0.mk ((by rw [hg]; exact (below_size z5_7_) : w.heap.size ≤ gb211)); have n9_ := Aside0.mk ((by rw [hg]; exact (below_size z5_7_) : w.heap.size ≤ gb211)); have n10_ := Aside0.mk ((by rw [hg]; exact Nat.ne_of_lt (blk_lt (g := gb194) (o := .cells #[.slice A0_0 l0_0.length c0_0] 39 (0, 0)) z5_0_) : gb194 ≠ gb211)); have n11_ := Aside0.mk ((by rw [hg]; exact Nat.ne_of_gt (blk_lt (g := gb194) (o := .cells #[.slice A0_0 l0_0.length c0_0] 39 (0, 0)) z5_0_) : gb211 ≠ gb194)); have n12_ := Aside0.mk ((by rw [hg]; exact Nat.ne_of_lt (blk_lt (g := gb195) (o := .cells #[.int .i64 a1_0, .int .i64 a1_1, .int .i64 a1_2] 23 (0, 0)) z5_1_) : gb195 ≠ gb211)); have n13_ := Aside0.mk ((by rw [hg]; exact Nat.ne_of_gt (blk_lt (g := gb195) (o := .cells #[.int .i64 a1_0, .int .i64 a1_1, .int .i64 a1_2] 23 (0, 0)) z5_1_) : gb211 ≠ gb195)); have n14_ := Aside0.mk ((by rw [hg]; exact Nat.ne_of_lt (blk_lt (g := gb207) (o := .cells #[.slice Ao51 t203.length co51] 44 (0, 0)) z5_3_) : gb207 ≠ gb211)); have n15_ := Aside0.mk ((by rw [hg]; exact Nat.ne_of_gt (blk_lt (g := gb207) (o := .cells #[.slice Ao51 t203.length co51] 44 (0, 0)) z5_3_) : gb211 ≠ gb207)); clear HO199; clear HO205; clear HO210; clear BK194; clear BK195; clear BK207; clear HB; have HO199 := n0_; have HO205 := n1_; have HO210 := n2_; have BK194 := n3_; have BK195 := n4_; have BK207 := n5_; have HB := n6_; have BK211 := n7_; have GW211 := n8_; have GE211 := n9_; have NB194_211 := n10_; have NB211_194 := n11_; have NB195_211 := n12_; have NB211_195 := n13_; have NB207_211 := n14_; have NB211_207 := n15_; clear n0_ n1_ n2_ n3_ n4_ n5_ n6_ n7_ n8_ n9_ n10_ n11_ n12_ n13_ n14_ n15_; clear hb hbox hg; obtain ⟨Ao57, co57, eo57⟩ := Kd.R_slice HO210.out; subst eo57; have hnb58 := NB211_194.out; have hnc58 := NB194_211.out; have hnb59 := NB211_195.out; have hnc59 := NB195_211.out; have hnb60 := NB211_207.out; have hnc60 := NB207_211.out; have hcz61_0 : w56.cell? ⟨gb211, 0, none⟩ = some (.slice none 0 0) := (blk_cell BK211.out 0).trans rfl; have hfz61_0 := blk_frozen BK211.out 0))
         have n0_ : Aside0 (Kd.R k25 25 (w56.setCell ⟨gb211, 0, none⟩ (.slice Ao57 t208.length co57)) w.heap.size (fun k_ => some k_ ≠ (.slice Ao51 t203.length co51 : Value).ownBlock ∧ some k_ ≠ (.slice Ao57 t208.length co57 : Value).ownBlock) v198 t197) := ⟨by (with_reducible repeat (first | apply Kd.R_alloc | apply Kd.R_drewN | apply Kd.R_drew)); exact Kd.R_mono (Kd.R_far (p := ⟨gb211, 0, none⟩) (Kd.R_types HO199.out BK211.out (by decide)) (fun _ hk => hk.2) (.slice Ao57 t208.length co57)) (fun _ hk => ⟨hk.1.1, hk.1.2⟩)⟩
         have n1_ : Aside0 (Kd.R k25 25 (w56.setCell ⟨gb211, 0, none⟩ (.slice Ao57 t208.length co57)) w.heap.size (fun k_ => some k_ ≠ (v198 : Value).ownBlock ∧ some k_ ≠ (.slice Ao57 t208.length co57 : Value).ownBlock) (.slice Ao51 t203.length co51) t203) := ⟨by (with_reducible repeat (first | apply Kd.R_alloc | apply Kd.R_drewN | apply Kd.R_drew)); exact Kd.R_mono (Kd.R_far (p := ⟨gb211, 0, none⟩) (Kd.R_types HO205.out BK211.out (by decide)) (fun _ hk => hk.2) (.slice Ao57 t208.length co57)) (fun _ hk => ⟨hk.1.1, hk.1.2⟩)⟩
         have n2_ : Aside0 (Kd.R k25 25 (w56.setCell ⟨gb211, 0, none⟩ (.slice Ao57 t208.length co57)) w.heap.size (fun k_ => some k_ ≠ (v198 : Value).ownBlock ∧ some k_ ≠ (.slice Ao51 t203.length co51 : Value).ownBlock) (.slice Ao57 t208.length co57) t208) := ⟨by (with_reducible repeat (first | apply Kd.R_alloc | apply Kd.R_drewN | apply Kd.R_drew)); exact Kd.R_mono (Kd.R_far (p := ⟨gb211, 0, none⟩) (Kd.R_types HO210.out BK211.out (by decide)) (fun _ hk => hk.2) (.slice Ao57 t208.length co57)) (fun _ hk => ⟨hk.1.1.2, hk.1.2⟩)⟩
         have n3_ : Aside0 ((w56.setCell ⟨gb211, 0, none⟩ (.slice Ao57 t208.length co57)).heap[gb194]? = some (.cells #[.slice A0_0 l0_0.length c0_0] 39 (0, 0))) := ⟨by (with_reducible repeat (first | refine blk_drewN ?_ _ | refine blk_drew ?_ | refine blk_alloc ?_ _)); refine blk_far ?_ NB194_211.out _; (with_reducible repeat (first | refine blk_drewN ?_ _ | refine blk_drew ?_ | refine blk_alloc ?_ _)); exact BK194.out⟩
         have n4_ : Aside0 ((w56.setCell ⟨gb211, 0, none⟩ (.slice Ao57 t208.length co57)).heap[gb195]? = some (.cells #[.int .i64 a1_0, .int .i64 a1_1, .int .i64 a1_2] 23 (0, 0))) := ⟨by (with_reducible repeat (first | refine blk_drewN ?_ _ | refine blk_drew ?_ | refine blk_alloc ?_ _)); refine blk_far ?_ NB195_211.out _; (with_reducible repeat (first | refine blk_drewN ?_ _ | refine blk_drew ?_ | refine blk_alloc ?_ _)); exact BK195.out⟩
         have n5_ : Aside0 ((w56.setCell ⟨gb211, 0, none⟩ (.slice Ao57 t208.length co57)).heap[gb207]? = some (.cells #[.slice Ao51 t203.length co51] 44 (0, 0))) := ⟨by (with_reducible repeat (first | refine blk_drewN ?_ _ | refine blk_drew ?_ | refine blk_alloc ?_ _)); refine blk_far ?_ NB207_211.out _; (with_reducible repeat (first | refine blk_drewN ?_ _ | refine blk_drew ?_ | refine blk_alloc ?_ _)); exact BK207.out⟩
         have n6_ : Aside0 ((w56.setCell ⟨gb211, 0, none⟩ (.slice Ao57 t208.length co57)).heap[gb211]? = some (.cells #[.slice Ao57 t208.length co57] 44 (0, 0))) := ⟨by (with_reducible repeat (first | refine blk_drewN ?_ _ | refine blk_drew ?_ | refine blk_alloc ?_ _)); refine blk_put (cs := #[.slice none 0 0]) ?_ 0 _ rfl; (with_reducible repeat (first | refine blk_drewN ?_ _ | refine blk_drew ?_ | refine blk_alloc ?_ _)); exact BK211.out⟩
         have n7_ : Aside0 (Below w.heap.size w (w56.setCell ⟨gb211, 0, none⟩ (.slice Ao57 t208.length co57))) := ⟨by repeat (first | (with_reducible first | exact HB.out | apply below_alloc | apply pw_below_drewN | apply below_drew1 | refine below_set ?_ GE194.out | refine below_set ?_ GE195.out | refine below_set ?_ GE207.out | refine below_set ?_ GE211.out) | exact HB.out)⟩
         (try clear HO199)
         (try clear HO205)
         (try clear HO210)
         (try clear BK194)
         (try clear BK195)
         (try clear BK207)
         (try clear BK211)
         (try clear HB)
         generalize (w56.setCell ⟨gb211, 0, none⟩ (.slice Ao57 t208.length co57)) = w62 at n0_ n1_ n2_ n3_ n4_ n5_ n6_ n7_ ⊢
         have HO199 := n0_
         have HO205 := n1_
         have HO210 := n2_
         have BK194 := n3_
         have BK195 := n4_
         have BK207 := n5_
         have BK211 := n6_
         have HB := n7_
         clear n0_ n1_ n2_ n3_ n4_ n5_ n6_ n7_
         have n0_ := Aside0.mk (Kd.R_drew HO199.out)
         have n1_ := Aside0.mk (Kd.R_drew HO205.out)
         have n2_ := Aside0.mk (Kd.R_drew HO210.out)
         have n3_ := Aside0.mk (blk_drew BK194.out)
         have n4_ := Aside0.mk (blk_drew BK195.out)
         have n5_ := Aside0.mk (blk_drew BK207.out)
         have n6_ := Aside0.mk (blk_drew BK211.out)
         have n7_ := Aside0.mk (below_drew1 HB.out)
         clear HO199
         clear HO205
         clear HO210
         clear BK194
         clear BK195
         clear BK207
         clear BK211
         clear HB
         have HO199 := n0_
         have HO205 := n1_
         have HO210 := n2_
         have BK194 := n3_
         have BK195 := n4_
         have BK207 := n5_
         have BK211 := n6_
         have HB := n7_
         clear n0_ n1_ n2_ n3_ n4_ n5_ n6_ n7_
         refine start_ (n := 10) (S := fun w' => w'.cell? ⟨gb211, 0, none⟩ = some (.slice Ao57 t208.length co57) ∧ w'.cell? ⟨gb195, 0, none⟩ = some (.int .i64 a1_0) ∧ w'.cell? ⟨gb195, 1, none⟩ = some (.int .i64 a1_1) ∧ w'.cell? ⟨gb195, 2, none⟩ = some (.int .i64 a1_2)) (ds := []) #[false, false, false, false, false, false, false, false, false, false] (by kernel_rfl) rfl rfl ⟨(blk_cell BK211.out 0).trans rfl, (blk_cell BK195.out 0).trans rfl, (blk_cell BK195.out 1).trans rfl, (blk_cell BK195.out 2).trans rfl⟩ (fun hHeld => ?_); refine with_tabW laws_FnExactAddClue.tab7 laws_FnExactAddClue.bits7 (fun HT_ HW_ => ?_)
         generalize w62.drew = w63 at HO199 HO205 HO210 BK194 BK195 BK207 BK211 HB hHeld ⊢
         refine take_ (i := 0) (N := some 32) (v := ?_) (a' := ?_) #[true, false, false, false, false, false, false, false, false, false] rfl rfl (take_ofW HT_.out HW_.out (by kernel_rfl)) (fun _ _ _ h => h) (Or.inl ⟨by rfl, ?_⟩) hHeld ?_ ?_
         rotate_left
         · rintro w' ⟨s0, s1, s2, s3⟩
           go_simp
           with_reducible rfl
         rotate_left
         · simp only [Act.put, List.setIfInBounds_toArray, List.set_cons_zero, List.set_cons_succ, i64_w, i32_w]
           rfl
         refine take_ (i := 1) (N := some 33) (v := ?_) (a' := ?_) #[true, true, false, false, false, false, false, false, false, false] rfl rfl (take_ofW HT_.out HW_.out (by kernel_rfl)) (fun _ _ _ h => h) (Or.inl ⟨by rfl, ?_⟩) hHeld ?_ ?_
         rotate_left
         · rintro w' ⟨s0, s1, s2, s3⟩
           go_simp
           with_reducible rfl
         rotate_left
         · simp only [Act.put, List.setIfInBounds_toArray, List.set_cons_zero, List.set_cons_succ, i64_w, i32_w]
           rfl
         refine join_ (σ := Value × Nat) 2 #[true, true, true, true, true, true, true, true, false, false] (fun s_ => [(34, .agg #[.int .i64 t212, .int .i64 t213, .int .i64 t214]), (35, .tuple #[.agg #[s_.1], .bool t218]), (9, .pointer (some ⟨s_.2, 0, none⟩)), (31, .tuple #[.agg #[s_.1], .bool t218]), (36, .agg #[s_.1]), (37, .bool t218)]) (fun s_ w' => (w'.cell? ⟨gb211, 0, none⟩ = some (.slice Ao57 t208.length co57) ∧ w'.cell? ⟨gb195, 0, none⟩ = some (.int .i64 a1_0) ∧ w'.cell? ⟨gb195, 1, none⟩ = some (.int .i64 a1_1) ∧ w'.cell? ⟨gb195, 2, none⟩ = some (.int .i64 a1_2)) ∧ (Kd.R k25 25 w' w.heap.size (fun k_ => some k_ ≠ (.slice Ao51 t203.length co51 : Value).ownBlock ∧ some k_ ≠ (.slice Ao57 t208.length co57 : Value).ownBlock ∧ some k_ ≠ (s_.1 : Value).ownBlock) v198 t197) ∧ (Kd.R k25 25 w' w.heap.size (fun k_ => some k_ ≠ (v198 : Value).ownBlock ∧ some k_ ≠ (.slice Ao57 t208.length co57 : Value).ownBlock ∧ some k_ ≠ (s_.1 : Value).ownBlock) (.slice Ao51 t203.length co51) t203) ∧ (Kd.R k25 25 w' w.heap.size (fun k_ => some k_ ≠ (v198 : Value).ownBlock ∧ some k_ ≠ (.slice Ao51 t203.length co51 : Value).ownBlock ∧ some k_ ≠ (s_.1 : Value).ownBlock) (.slice Ao57 t208.length co57) t208) ∧ (Kd.R k25 25 w' w.heap.size (fun k_ => some k_ ≠ (v198 : Value).ownBlock ∧ some k_ ≠ (.slice Ao51 t203.length co51 : Value).ownBlock ∧ some k_ ≠ (.slice Ao57 t208.length co57 : Value).ownBlock) s_.1 t215) ∧ (w'.heap[gb194]? = some (.cells #[.slice A0_0 l0_0.length c0_0] 39 (0, 0))) ∧ (w'.heap[gb195]? = some (.cells #[.int .i64 a1_0, .int .i64 a1_1, .int .i64 a1_2] 23 (0, 0))) ∧ (w'.heap[gb207]? = some (.cells #[.slice Ao51 t203.length co51] 44 (0, 0))) ∧ (w'.heap[gb211]? = some (.cells #[.slice Ao57 t208.length co57] 44 (0, 0))) ∧ (w'.heap[s_.2]? = some (.cells #[.slice none 0 0] 44 (0, 0))) ∧ (w.heap.size ≤ s_.2) ∧ (w.heap.size ≤ s_.2) ∧ (gb194 ≠ s_.2) ∧ (s_.2 ≠ gb194) ∧ (gb195 ≠ s_.2) ∧ (s_.2 ≠ gb195) ∧ (gb207 ≠ s_.2) ∧ (s_.2 ≠ gb207) ∧ (gb211 ≠ s_.2) ∧ (s_.2 ≠ gb211) ∧ (Below w.heap.size w w')) ?_ ?_
         rotate_left
         · intro hCont
           refine two_ (i := 2) (j := 7) (Ni := some 34) (Nj := some 9) #[true, true, true, false, false, false, false, false, false, false] #[true, true, false, false, false, false, false, true, false, false] rfl rfl rfl rfl (two_of HT_.out (by kernel_rfl)) (by decide) (by decide) (fun K hK => ?_) (fun K hK => ?_)
           · skip
             refine goes_ Try.func9 (by kernel_rfl) rfl #[.agg #[.int .i64 a1_0, .int .i64 a1_1, .int .i64 a1_2]] (by rfl) rfl rfl z5_9_ ?_
             with_reducible refine (laws_toClue.calls a1_0 a1_1 a1_2 t212 t213 t214 _ A14.out).mono ?_
             rintro e w64 ⟨rfl, hb⟩
             refine ⟨_, rfl, ?_⟩
             have n0_ := Aside0.mk (Kd.R_below z5_5_ hb)
             have n1_ := Aside0.mk (Kd.R_below z5_10_ hb)
             have n2_ := Aside0.mk (Kd.R_below z5_11_ hb)
             have n3_ := Aside0.mk (blk_below (g := gb194) (o := .cells #[.slice A0_0 l0_0.length c0_0] 39 (0, 0)) z5_0_ hb)
             have n4_ := Aside0.mk (blk_below (g := gb195) (o := .cells #[.int .i64 a1_0, .int .i64 a1_1, .int .i64 a1_2] 23 (0, 0)) z5_1_ hb)
             have n5_ := Aside0.mk (blk_below (g := gb207) (o := .cells #[.slice Ao51 t203.length co51] 44 (0, 0)) z5_3_ hb)
             have n6_ := Aside0.mk (blk_below (g := gb211) (o := .cells #[.slice Ao57 t208.length co57] 44 (0, 0)) z5_4_ hb)
             have n7_ := Aside0.mk (below_step z5_13_ hb)
             clear HO199
             clear HO205
             clear HO210
             clear BK194
             clear BK195
             clear BK207
             clear BK211
             clear HB
             have HO199 := n0_
             have HO205 := n1_
             have HO210 := n2_
             have BK194 := n3_
             have BK195 := n4_
             have BK207 := n5_
             have BK211 := n6_
             have HB := n7_
             clear n0_ n1_ n2_ n3_ n4_ n5_ n6_ n7_
             (try clear hb)
             (try clear hb2)
             (try clear hk)
             (try clear hi)
             refine hK.out _ _ ⟨(blk_cell BK211.out 0).trans rfl, (blk_cell BK195.out 0).trans rfl, (blk_cell BK195.out 1).trans rfl, (blk_cell BK195.out 2).trans rfl⟩ (fun hHeld => ?_)
             clear hK K
             refine norm_ (a' := ?_) ?_ ?_
             rotate_left
             · show Act.put _ (some 34) _ = _
               simp only [Act.put, List.setIfInBounds_toArray, List.set_cons_zero, List.set_cons_succ, i64_w, i32_w]
               rfl
             refine two_ (i := 3) (j := 7) (Ni := some 35) (Nj := some 9) #[true, true, true, true, false, false, false, false, false, false] #[true, true, true, false, false, false, false, true, false, false] rfl rfl rfl rfl (two_of HT_.out (by kernel_rfl)) (by decide) (by decide) (fun K hK => ?_) (fun K hK => ?_)
             · skip
               refine goes_ Try.func22 (by kernel_rfl) rfl #[.agg #[.slice Ao57 t208.length co57], .agg #[.int .i64 t212, .int .i64 t213, .int .i64 t214]] (by rfl) rfl rfl z5_9_ ?_
               with_reducible refine (impl_AddClue.calls k _ _ t208 t212 t213 t214 t215 t218 _ ?side1 ?side2 A15.out).mono ?_
               (case side1 => repeat (first | exact (Kd.R_reads' HO210.out).2.2 | (with_reducible refine Kd.C_alloc ?_ _) | (with_reducible refine Kd.C_drewN ?_ _) | (with_reducible refine Kd.C_drew ?_)))
               (case side2 => exact (Kd.R_reads' HO210.out).2.1)
               rintro e w65 ⟨v216, rfl, ho0, hb⟩
               refine ⟨_, rfl, ?_⟩
               have n0_ := Aside0.mk (Kd.R_elder' z5_5_ (Kd.R_base ho0) hb)
               have n1_ := Aside0.mk (Kd.R_elder' z5_10_ (Kd.R_base ho0) hb)
               have n2_ := Aside0.mk (Kd.R_elder' z5_11_ (Kd.R_base ho0) hb)
               have n3_ := Aside0.mk (Kd.R_lower (Kd.R_new' (Kd.R_new' (Kd.R_new' ho0 (Kd.R_lt z5_5_)) (Kd.R_lt z5_10_)) (Kd.R_lt z5_11_)) (below_size z5_13_))
               have n4_ := Aside0.mk (blk_below (g := gb194) (o := .cells #[.slice A0_0 l0_0.length c0_0] 39 (0, 0)) z5_0_ hb)
               have n5_ := Aside0.mk (blk_below (g := gb195) (o := .cells #[.int .i64 a1_0, .int .i64 a1_1, .int .i64 a1_2] 23 (0, 0)) z5_1_ hb)
               have n6_ := Aside0.mk (blk_below (g := gb207) (o := .cells #[.slice Ao51 t203.length co51] 44 (0, 0)) z5_3_ hb)
               have n7_ := Aside0.mk (blk_below (g := gb211) (o := .cells #[.slice Ao57 t208.length co57] 44 (0, 0)) z5_4_ hb)
               have n8_ := Aside0.mk (below_step z5_13_ hb)
               clear HO199
               clear HO205
               clear HO210
               clear BK194
               clear BK195
               clear BK207
               clear BK211
               clear HB
               have HO199 := n0_
               have HO205 := n1_
               have HO210 := n2_
               have HO217 := n3_
               have BK194 := n4_
               have BK195 := n5_
               have BK207 := n6_
               have BK211 := n7_
               have HB := n8_
               clear n0_ n1_ n2_ n3_ n4_ n5_ n6_ n7_ n8_
               (try clear hb)
               (try clear hb2)
               (try clear hk)
               (try clear hi)
               (try clear ho0)
               refine hK.out _ _ ⟨(blk_cell BK211.out 0).trans rfl, (blk_cell BK195.out 0).trans rfl, (blk_cell BK195.out 1).trans rfl, (blk_cell BK195.out 2).trans rfl⟩ (fun hHeld => ?_)
               clear hK K
               refine norm_ (a' := ?_) ?_ ?_
               rotate_left
               · show Act.put _ (some 35) _ = _
                 simp only [Act.put, List.setIfInBounds_toArray, List.set_cons_zero, List.set_cons_succ, i64_w, i32_w]
                 rfl
               refine pure_ (i := 4) (N := some 31) (v := ?_) (a' := ?_) #[true, true, true, true, true, false, false, false, false, false] rfl rfl (any_of HT_.out (by kernel_rfl)) (fun _ _ _ h => h) (Or.inl ⟨by rfl, ?_⟩) ?_ ?_
               rotate_left
               · intro w'
                 go_simp
                 with_reducible rfl
               rotate_left
               · simp only [Act.put, List.setIfInBounds_toArray, List.set_cons_zero, List.set_cons_succ, i64_w, i32_w]
                 rfl
               refine pure_ (i := 5) (N := some 36) (v := ?_) (a' := ?_) #[true, true, true, true, true, true, false, false, false, false] rfl rfl (any_of HT_.out (by kernel_rfl)) (fun _ _ _ h => h) (Or.inl ⟨by rfl, ?_⟩) ?_ ?_
               rotate_left
               · intro w'
                 go_simp
                 with_reducible rfl
               rotate_left
               · simp only [Act.put, List.setIfInBounds_toArray, List.set_cons_zero, List.set_cons_succ, i64_w, i32_w]
                 rfl
               refine pure_ (i := 6) (N := some 37) (v := ?_) (a' := ?_) #[true, true, true, true, true, true, true, false, false, false] rfl rfl (any_of HT_.out (by kernel_rfl)) (fun _ _ _ h => h) (Or.inl ⟨by rfl, ?_⟩) ?_ ?_
               rotate_left
               · intro w'
                 go_simp
                 with_reducible rfl
               rotate_left
               · simp only [Act.put, List.setIfInBounds_toArray, List.set_cons_zero, List.set_cons_succ, i64_w, i32_w]
                 rfl
               refine one_ (i := 7) (N := some 9) #[true, true, true, true, true, true, true, true, false, false] rfl rfl (one_of HT_.out (by kernel_rfl)) (by decide) (fun K hK => ?_)
               refine box_step ?hg (N := 9) ?hd (cs := #[.slice none 0 0]) (t := 44) ?hr ?_; (case hd => rfl); (case hg => rfl); (case hr => first | (go_simp; done) | (go_simp; rfl))
               intro gb219 hg w66 hbox hb
               have n0_ := Aside0.mk (Kd.R_below z5_5_ hb)
               have n1_ := Aside0.mk (Kd.R_below z5_10_ hb)
               have n2_ := Aside0.mk (Kd.R_below z5_11_ hb)
               have n3_ := Aside0.mk (Kd.R_below z5_14_ hb)
               have n4_ := Aside0.mk (blk_below (g := gb194) (o := .cells #[.slice A0_0 l0_0.length c0_0] 39 (0, 0)) z5_0_ hb)
               have n5_ := Aside0.mk (blk_below (g := gb195) (o := .cells #[.int .i64 a1_0, .int .i64 a1_1, .int .i64 a1_2] 23 (0, 0)) z5_1_ hb)
               have n6_ := Aside0.mk (blk_below (g := gb207) (o := .cells #[.slice Ao51 t203.length co51] 44 (0, 0)) z5_3_ hb)
               have n7_ := Aside0.mk (blk_below (g := gb211) (o := .cells #[.slice Ao57 t208.length co57] 44 (0, 0)) z5_4_ hb)
               have n8_ := Aside0.mk (below_step z5_13_ hb)
               have n9_ := Aside0.mk (hbox)
               have n10_ := Aside0.mk ((by rw [hg]; exact (below_size z5_13_) : w.heap.size ≤ gb219))
               have n11_ := Aside0.mk ((by rw [hg]; exact (below_size z5_13_) : w.heap.size ≤ gb219))
               have n12_ := Aside0.mk ((by rw [hg]; exact Nat.ne_of_lt (blk_lt (g := gb194) (o := .cells #[.slice A0_0 l0_0.length c0_0] 39 (0, 0)) z5_0_) : gb194 ≠ gb219))
               have n13_ := Aside0.mk ((by rw [hg]; exact Nat.ne_of_gt (blk_lt (g := gb194) (o := .cells #[.slice A0_0 l0_0.length c0_0] 39 (0, 0)) z5_0_) : gb219 ≠ gb194))
               have n14_ := Aside0.mk ((by rw [hg]; exact Nat.ne_of_lt (blk_lt (g := gb195) (o := .cells #[.int .i64 a1_0, .int .i64 a1_1, .int .i64 a1_2] 23 (0, 0)) z5_1_) : gb195 ≠ gb219))
               have n15_ := Aside0.mk ((by rw [hg]; exact Nat.ne_of_gt (blk_lt (g := gb195) (o := .cells #[.int .i64 a1_0, .int .i64 a1_1, .int .i64 a1_2] 23 (0, 0)) z5_1_) : gb219 ≠ gb195))
               have n16_ := Aside0.mk ((by rw [hg]; exact Nat.ne_of_lt (blk_lt (g := gb207) (o := .cells #[.slice Ao51 t203.length co51] 44 (0, 0)) z5_3_) : gb207 ≠ gb219))
               have n17_ := Aside0.mk ((by rw [hg]; exact Nat.ne_of_gt (blk_lt (g := gb207) (o := .cells #[.slice Ao51 t203.length co51] 44 (0, 0)) z5_3_) : gb219 ≠ gb207))
               have n18_ := Aside0.mk ((by rw [hg]; exact Nat.ne_of_lt (blk_lt (g := gb211) (o := .cells #[.slice Ao57 t208.length co57] 44 (0, 0)) z5_4_) : gb211 ≠ gb219))
               have n19_ := Aside0.mk ((by rw [hg]; exact Nat.ne_of_gt (blk_lt (g := gb211) (o := .cells #[.slice Ao57 t208.length co57] 44 (0, 0)) z5_4_) : gb219 ≠ gb211))
               clear HO199
               clear HO205
               clear HO210
               clear HO217
               clear BK194
               clear BK195
               clear BK207
               clear BK211
               clear HB
               have HO199 := n0_
               have HO205 := n1_
               have HO210 := n2_
               have HO217 := n3_
               have BK194 := n4_
               have BK195 := n5_
               have BK207 := n6_
               have BK211 := n7_
               have HB := n8_
               have BK219 := n9_
               have GW219 := n10_
               have GE219 := n11_
               have NB194_219 := n12_
               have NB219_194 := n13_
               have NB195_219 := n14_
               have NB219_195 := n15_
               have NB207_219 := n16_
               have NB219_207 := n17_
               have NB211_219 := n18_
               have NB219_211 := n19_
               clear n0_ n1_ n2_ n3_ n4_ n5_ n6_ n7_ n8_ n9_ n10_ n11_ n12_ n13_ n14_ n15_ n16_ n17_ n18_ n19_
               clear hb hbox hg
               refine hK.out _ _ ⟨(blk_cell BK211.out 0).trans rfl, (blk_cell BK195.out 0).trans rfl, (blk_cell BK195.out 1).trans rfl, (blk_cell BK195.out 2).trans rfl⟩ (fun hHeld => ?_)
               clear hK K
               refine norm_ (a' := ?_) ?_ ?_
               rotate_left
               · show Act.put _ (some 9) _ = _
                 simp only [Act.put, List.setIfInBounds_toArray, List.set_cons_zero, List.set_cons_succ, i64_w, i32_w]
                 rfl
               exact norm_ z5_18_ (hCont (v216, gb219) _ ⟨hHeld, z5_31_, z5_32_, z5_33_, z5_30_, z5_0_, z5_1_, z5_3_, z5_4_, z5_8_, GW219.out, GE219.out, NB194_219.out, NB219_194.out, NB195_219.out, NB219_195.out, NB207_219.out, NB219_207.out, NB211_219.out, NB219_211.out, z5_2_⟩)
             skip
             refine box_step ?hg (N := 9) ?hd (cs := #[.slice none 0 0]) (t := 44) ?hr ?_; (case hd => rfl); (case hg => rfl); (case hr => first | (go_simp; done) | (go_simp; rfl))
             intro gb219 hg w65 hbox hb
             have n0_ := Aside0.mk (Kd.R_below z5_5_ hb)
             have n1_ := Aside0.mk (Kd.R_below z5_10_ hb)
             have n2_ := Aside0.mk (Kd.R_below z5_11_ hb)
             have n3_ := Aside0.mk (blk_below (g := gb194) (o := .cells #[.slice A0_0 l0_0.length c0_0] 39 (0, 0)) z5_0_ hb)
             have n4_ := Aside0.mk (blk_below (g := gb195) (o := .cells #[.int .i64 a1_0, .int .i64 a1_1, .int .i64 a1_2] 23 (0, 0)) z5_1_ hb)
             have n5_ := Aside0.mk (blk_below (g := gb207) (o := .cells #[.slice Ao51 t203.length co51] 44 (0, 0)) z5_3_ hb)
             have n6_ := Aside0.mk (blk_below (g := gb211) (o := .cells #[.slice Ao57 t208.length co57] 44 (0, 0)) z5_4_ hb)
             have n7_ := Aside0.mk (below_step z5_13_ hb)
             have n8_ := Aside0.mk (hbox)
             have n9_ := Aside0.mk ((by rw [hg]; exact (below_size z5_13_) : w.heap.size ≤ gb219))
             have n10_ := Aside0.mk ((by rw [hg]; exact (below_size z5_13_) : w.heap.size ≤ gb219))
             have n11_ := Aside0.mk ((by rw [hg]; exact Nat.ne_of_lt (blk_lt (g := gb194) (o := .cells #[.slice A0_0 l0_0.length c0_0] 39 (0, 0)) z5_0_) : gb194 ≠ gb219))
             have n12_ := Aside0.mk ((by rw [hg]; exact Nat.ne_of_gt (blk_lt (g := gb194) (o := .cells #[.slice A0_0 l0_0.length c0_0] 39 (0, 0)) z5_0_) : gb219 ≠ gb194))
             have n13_ := Aside0.mk ((by rw [hg]; exact Nat.ne_of_lt (blk_lt (g := gb195) (o := .cells #[.int .i64 a1_0, .int .i64 a1_1, .int .i64 a1_2] 23 (0, 0)) z5_1_) : gb195 ≠ gb219))
             have n14_ := Aside0.mk ((by rw [hg]; exact Nat.ne_of_gt (blk_lt (g := gb195) (o := .cells #[.int .i64 a1_0, .int .i64 a1_1, .int .i64 a1_2] 23 (0, 0)) z5_1_) : gb219 ≠ gb195))
             have n15_ := Aside0.mk ((by rw [hg]; exact Nat.ne_of_lt (blk_lt (g := gb207) (o := .cells #[.slice Ao51 t203.length co51] 44 (0, 0)) z5_3_) : gb207 ≠ gb219))
             have n16_ := Aside0.mk ((by rw [hg]; exact Nat.ne_of_gt (blk_lt (g := gb207) (o := .cells #[.slice Ao51 t203.length co51] 44 (0, 0)) z5_3_) : gb219 ≠ gb207))
             have n17_ := Aside0.mk ((by rw [hg]; exact Nat.ne_of_lt (blk_lt (g := gb211) (o := .cells #[.slice Ao57 t208.length co57] 44 (0, 0)) z5_4_) : gb211 ≠ gb219))
             have n18_ := Aside0.mk ((by rw [hg]; exact Nat.ne_of_gt (blk_lt (g := gb211) (o := .cells #[.slice Ao57 t208.length co57] 44 (0, 0)) z5_4_) : gb219 ≠ gb211))
             clear HO199
             clear HO205
             clear HO210
             clear BK194
             clear BK195
             clear BK207
             clear BK211
             clear HB
             have HO199 := n0_
             have HO205 := n1_
             have HO210 := n2_
             have BK194 := n3_
             have BK195 := n4_
             have BK207 := n5_
             have BK211 := n6_
             have HB := n7_
             have BK219 := n8_
             have GW219 := n9_
             have GE219 := n10_
             have NB194_219 := n11_
             have NB219_194 := n12_
             have NB195_219 := n13_
             have NB219_195 := n14_
             have NB207_219 := n15_
             have NB219_207 := n16_
             have NB211_219 := n17_
             have NB219_211 := n18_
             clear n0_ n1_ n2_ n3_ n4_ n5_ n6_ n7_ n8_ n9_ n10_ n11_ n12_ n13_ n14_ n15_ n16_ n17_ n18_
             clear hb hbox hg
             refine hK.out _ _ ⟨(blk_cell BK211.out 0).trans rfl, (blk_cell BK195.out 0).trans rfl, (blk_cell BK195.out 1).trans rfl, (blk_cell BK195.out 2).trans rfl⟩ (fun hHeld => ?_)
             clear hK K
             refine norm_ (a' := ?_) ?_ ?_
             rotate_left
             · show Act.put _ (some 9) _ = _
               simp only [Act.put, List.setIfInBounds_toArray, List.set_cons_zero, List.set_cons_succ, i64_w, i32_w]
               rfl
             refine one_ (i := 3) (N := some 35) #[true, true, true, true, false, false, false, true, false, false] rfl rfl (one_of HT_.out (by kernel_rfl)) (by decide) (fun K hK => ?_)
             refine goes_ Try.func22 (by kernel_rfl) rfl #[.agg #[.slice Ao57 t208.length co57], .agg #[.int .i64 t212, .int .i64 t213, .int .i64 t214]] (by rfl) rfl rfl z5_9_ ?_
             with_reducible refine (impl_AddClue.calls k _ _ t208 t212 t213 t214 t215 t218 _ ?side1 ?side2 A15.out).mono ?_
             (case side1 => repeat (first | exact (Kd.R_reads' HO210.out).2.2 | (with_reducible refine Kd.C_alloc ?_ _) | (with_reducible refine Kd.C_drewN ?_ _) | (with_reducible refine Kd.C_drew ?_)))
             (case side2 => exact (Kd.R_reads' HO210.out).2.1)
             rintro e w66 ⟨v216, rfl, ho0, hb⟩
             refine ⟨_, rfl, ?_⟩
             have n0_ := Aside0.mk (Kd.R_elder' z5_5_ (Kd.R_base ho0) hb)
             have n1_ := Aside0.mk (Kd.R_elder' z5_10_ (Kd.R_base ho0) hb)
             have n2_ := Aside0.mk (Kd.R_elder' z5_11_ (Kd.R_base ho0) hb)
             have n3_ := Aside0.mk (Kd.R_lower (Kd.R_new' (Kd.R_new' (Kd.R_new' ho0 (Kd.R_lt z5_5_)) (Kd.R_lt z5_10_)) (Kd.R_lt z5_11_)) (below_size z5_2_))
             have n4_ := Aside0.mk (blk_below (g := gb194) (o := .cells #[.slice A0_0 l0_0.length c0_0] 39 (0, 0)) z5_0_ hb)
             have n5_ := Aside0.mk (blk_below (g := gb195) (o := .cells #[.int .i64 a1_0, .int .i64 a1_1, .int .i64 a1_2] 23 (0, 0)) z5_1_ hb)
             have n6_ := Aside0.mk (blk_below (g := gb207) (o := .cells #[.slice Ao51 t203.length co51] 44 (0, 0)) z5_3_ hb)
             have n7_ := Aside0.mk (blk_below (g := gb211) (o := .cells #[.slice Ao57 t208.length co57] 44 (0, 0)) z5_4_ hb)
             have n8_ := Aside0.mk (blk_below (g := gb219) (o := .cells #[.slice none 0 0] 44 (0, 0)) z5_8_ hb)
             have n9_ := Aside0.mk (below_step z5_2_ hb)
             clear HO199
             clear HO205
             clear HO210
             clear BK194
             clear BK195
             clear BK207
             clear BK211
             clear BK219
             clear HB
             have HO199 := n0_
             have HO205 := n1_
             have HO210 := n2_
             have HO217 := n3_
             have BK194 := n4_
             have BK195 := n5_
             have BK207 := n6_
             have BK211 := n7_
             have BK219 := n8_
             have HB := n9_
             clear n0_ n1_ n2_ n3_ n4_ n5_ n6_ n7_ n8_ n9_
             (try clear hb)
             (try clear hb2)
             (try clear hk)
             (try clear hi)
             (try clear ho0)
             refine hK.out _ _ ⟨(blk_cell BK211.out 0).trans rfl, (blk_cell BK195.out 0).trans rfl, (blk_cell BK195.out 1).trans rfl, (blk_cell BK195.out 2).trans rfl⟩ (fun hHeld => ?_)
             clear hK K
             refine norm_ (a' := ?_) ?_ ?_
             rotate_left
             · show Act.put _ (some 35) _ = _
               simp only [Act.put, List.setIfInBounds_toArray, List.set_cons_zero, List.set_cons_succ, i64_w, i32_w]
               rfl
             refine pure_ (i := 4) (N := some 31) (v := ?_) (a' := ?_) #[true, true, true, true, true, false, false, true, false, false] rfl rfl (any_of HT_.out (by kernel_rfl)) (fun _ _ _ h => h) (Or.inl ⟨by rfl, ?_⟩) ?_ ?_
             rotate_left
             · intro w'
               go_simp
               with_reducible rfl
             rotate_left
             · simp only [Act.put, List.setIfInBounds_toArray, List.set_cons_zero, List.set_cons_succ, i64_w, i32_w]
               rfl
             refine pure_ (i := 5) (N := some 36) (v := ?_) (a' := ?_) #[true, true, true, true, true, true, false, true, false, false] rfl rfl (any_of HT_.out (by kernel_rfl)) (fun _ _ _ h => h) (Or.inl ⟨by rfl, ?_⟩) ?_ ?_
             rotate_left
             · intro w'
               go_simp
               with_reducible rfl
             rotate_left
             · simp only [Act.put, List.setIfInBounds_toArray, List.set_cons_zero, List.set_cons_succ, i64_w, i32_w]
               rfl
             refine pure_ (i := 6) (N := some 37) (v := ?_) (a' := ?_) #[true, true, true, true, true, true, true, true, false, false] rfl rfl (any_of HT_.out (by kernel_rfl)) (fun _ _ _ h => h) (Or.inl ⟨by rfl, ?_⟩) ?_ ?_
             rotate_left
             · intro w'
               go_simp
               with_reducible rfl
             rotate_left
             · simp only [Act.put, List.setIfInBounds_toArray, List.set_cons_zero, List.set_cons_succ, i64_w, i32_w]
               rfl
             exact norm_ z5_18_ (hCont (v216, gb219) _ ⟨hHeld, z5_31_, z5_32_, z5_33_, z5_30_, z5_0_, z5_1_, z5_3_, z5_4_, z5_8_, GW219.out, GE219.out, NB194_219.out, NB219_194.out, NB195_219.out, NB219_195.out, NB207_219.out, NB219_207.out, NB211_219.out, NB219_211.out, z5_2_⟩)
           skip
           refine box_step ?hg (N := 9) ?hd (cs := #[.slice none 0 0]) (t := 44) ?hr ?_; (case hd => rfl); (case hg => rfl); (case hr => first | (go_simp; done) | (go_simp; rfl))
           intro gb219 hg w64 hbox hb
           have n0_ := Aside0.mk (Kd.R_below z5_5_ hb)
           have n1_ := Aside0.mk (Kd.R_below z5_10_ hb)
           have n2_ := Aside0.mk (Kd.R_below z5_11_ hb)
           have n3_ := Aside0.mk (blk_below (g := gb194) (o := .cells #[.slice A0_0 l0_0.length c0_0] 39 (0, 0)) z5_0_ hb)
           have n4_ := Aside0.mk (blk_below (g := gb195) (o := .cells #[.int .i64 a1_0, .int .i64 a1_1, .int .i64 a1_2] 23 (0, 0)) z5_1_ hb)
           have n5_ := Aside0.mk (blk_below (g := gb207) (o := .cells #[.slice Ao51 t203.length co51] 44 (0, 0)) z5_3_ hb)
           have n6_ := Aside0.mk (blk_below (g := gb211) (o := .cells #[.slice Ao57 t208.length co57] 44 (0, 0)) z5_4_ hb)
           have n7_ := Aside0.mk (below_step z5_13_ hb)
           have n8_ := Aside0.mk (hbox)
           have n9_ := Aside0.mk ((by rw [hg]; exact (below_size z5_13_) : w.heap.size ≤ gb219))
           have n10_ := Aside0.mk ((by rw [hg]; exact (below_size z5_13_) : w.heap.size ≤ gb219))
           have n11_ := Aside0.mk ((by rw [hg]; exact Nat.ne_of_lt (blk_lt (g := gb194) (o := .cells #[.slice A0_0 l0_0.length c0_0] 39 (0, 0)) z5_0_) : gb194 ≠ gb219))
           have n12_ := Aside0.mk ((by rw [hg]; exact Nat.ne_of_gt (blk_lt (g := gb194) (o := .cells #[.slice A0_0 l0_0.length c0_0] 39 (0, 0)) z5_0_) : gb219 ≠ gb194))
           have n13_ := Aside0.mk ((by rw [hg]; exact Nat.ne_of_lt (blk_lt (g := gb195) (o := .cells #[.int .i64 a1_0, .int .i64 a1_1, .int .i64 a1_2] 23 (0, 0)) z5_1_) : gb195 ≠ gb219))
           have n14_ := Aside0.mk ((by rw [hg]; exact Nat.ne_of_gt (blk_lt (g := gb195) (o := .cells #[.int .i64 a1_0, .int .i64 a1_1, .int .i64 a1_2] 23 (0, 0)) z5_1_) : gb219 ≠ gb195))
           have n15_ := Aside0.mk ((by rw [hg]; exact Nat.ne_of_lt (blk_lt (g := gb207) (o := .cells #[.slice Ao51 t203.length co51] 44 (0, 0)) z5_3_) : gb207 ≠ gb219))
           have n16_ := Aside0.mk ((by rw [hg]; exact Nat.ne_of_gt (blk_lt (g := gb207) (o := .cells #[.slice Ao51 t203.length co51] 44 (0, 0)) z5_3_) : gb219 ≠ gb207))
           have n17_ := Aside0.mk ((by rw [hg]; exact Nat.ne_of_lt (blk_lt (g := gb211) (o := .cells #[.slice Ao57 t208.length co57] 44 (0, 0)) z5_4_) : gb211 ≠ gb219))
           have n18_ := Aside0.mk ((by rw [hg]; exact Nat.ne_of_gt (blk_lt (g := gb211) (o := .cells #[.slice Ao57 t208.length co57] 44 (0, 0)) z5_4_) : gb219 ≠ gb211))
           clear HO199
           clear HO205
           clear HO210
           clear BK194
           clear BK195
           clear BK207
           clear BK211
           clear HB
           have HO199 := n0_
           have HO205 := n1_
           have HO210 := n2_
           have BK194 := n3_
           have BK195 := n4_
           have BK207 := n5_
           have BK211 := n6_
           have HB := n7_
           have BK219 := n8_
           have GW219 := n9_
           have GE219 := n10_
           have NB194_219 := n11_
           have NB219_194 := n12_
           have NB195_219 := n13_
           have NB219_195 := n14_
           have NB207_219 := n15_
           have NB219_207 := n16_
           have NB211_219 := n17_
           have NB219_211 := n18_
           clear n0_ n1_ n2_ n3_ n4_ n5_ n6_ n7_ n8_ n9_ n10_ n11_ n12_ n13_ n14_ n15_ n16_ n17_ n18_
           clear hb hbox hg
           refine hK.out _ _ ⟨(blk_cell BK211.out 0).trans rfl, (blk_cell BK195.out 0).trans rfl, (blk_cell BK195.out 1).trans rfl, (blk_cell BK195.out 2).trans rfl⟩ (fun hHeld => ?_)
           clear hK K
           refine norm_ (a' := ?_) ?_ ?_
           rotate_left
           · show Act.put _ (some 9) _ = _
             simp only [Act.put, List.setIfInBounds_toArray, List.set_cons_zero, List.set_cons_succ, i64_w, i32_w]
             rfl
           refine one_ (i := 2) (N := some 34) #[true, true, true, false, false, false, false, true, false, false] rfl rfl (one_of HT_.out (by kernel_rfl)) (by decide) (fun K hK => ?_)
           refine goes_ Try.func9 (by kernel_rfl) rfl #[.agg #[.int .i64 a1_0, .int .i64 a1_1, .int .i64 a1_2]] (by rfl) rfl rfl z5_9_ ?_
           with_reducible refine (laws_toClue.calls a1_0 a1_1 a1_2 t212 t213 t214 _ A14.out).mono ?_
           rintro e w65 ⟨rfl, hb⟩
           refine ⟨_, rfl, ?_⟩
           have n0_ := Aside0.mk (Kd.R_below z5_5_ hb)
           have n1_ := Aside0.mk (Kd.R_below z5_10_ hb)
           have n2_ := Aside0.mk (Kd.R_below z5_11_ hb)
           have n3_ := Aside0.mk (blk_below (g := gb194) (o := .cells #[.slice A0_0 l0_0.length c0_0] 39 (0, 0)) z5_0_ hb)
           have n4_ := Aside0.mk (blk_below (g := gb195) (o := .cells #[.int .i64 a1_0, .int .i64 a1_1, .int .i64 a1_2] 23 (0, 0)) z5_1_ hb)
           have n5_ := Aside0.mk (blk_below (g := gb207) (o := .cells #[.slice Ao51 t203.length co51] 44 (0, 0)) z5_3_ hb)
           have n6_ := Aside0.mk (blk_below (g := gb211) (o := .cells #[.slice Ao57 t208.length co57] 44 (0, 0)) z5_4_ hb)
           have n7_ := Aside0.mk (blk_below (g := gb219) (o := .cells #[.slice none 0 0] 44 (0, 0)) z5_8_ hb)
           have n8_ := Aside0.mk (below_step z5_2_ hb)
           clear HO199
           clear HO205
           clear HO210
           clear BK194
           clear BK195
           clear BK207
           clear BK211
           clear BK219
           clear HB
           have HO199 := n0_
           have HO205 := n1_
           have HO210 := n2_
           have BK194 := n3_
           have BK195 := n4_
           have BK207 := n5_
           have BK211 := n6_
           have BK219 := n7_
           have HB := n8_
           clear n0_ n1_ n2_ n3_ n4_ n5_ n6_ n7_ n8_
           (try clear hb)
           (try clear hb2)
           (try clear hk)
           (try clear hi)
           refine hK.out _ _ ⟨(blk_cell BK211.out 0).trans rfl, (blk_cell BK195.out 0).trans rfl, (blk_cell BK195.out 1).trans rfl, (blk_cell BK195.out 2).trans rfl⟩ (fun hHeld => ?_)
           clear hK K
           refine norm_ (a' := ?_) ?_ ?_
           rotate_left
           · show Act.put _ (some 34) _ = _
             simp only [Act.put, List.setIfInBounds_toArray, List.set_cons_zero, List.set_cons_succ, i64_w, i32_w]
             rfl
           refine one_ (i := 3) (N := some 35) #[true, true, true, true, false, false, false, true, false, false] rfl rfl (one_of HT_.out (by kernel_rfl)) (by decide) (fun K hK => ?_)
           refine goes_ Try.func22 (by kernel_rfl) rfl #[.agg #[.slice Ao57 t208.length co57], .agg #[.int .i64 t212, .int .i64 t213, .int .i64 t214]] (by rfl) rfl rfl z5_9_ ?_
           with_reducible refine (impl_AddClue.calls k _ _ t208 t212 t213 t214 t215 t218 _ ?side1 ?side2 A15.out).mono ?_
           (case side1 => repeat (first | exact (Kd.R_reads' HO210.out).2.2 | (with_reducible refine Kd.C_alloc ?_ _) | (with_reducible refine Kd.C_drewN ?_ _) | (with_reducible refine Kd.C_drew ?_)))
           (case side2 => exact (Kd.R_reads' HO210.out).2.1)
           rintro e w66 ⟨v216, rfl, ho0, hb⟩
           refine ⟨_, rfl, ?_⟩
           have n0_ := Aside0.mk (Kd.R_elder' z5_5_ (Kd.R_base ho0) hb)
           have n1_ := Aside0.mk (Kd.R_elder' z5_10_ (Kd.R_base ho0) hb)
           have n2_ := Aside0.mk (Kd.R_elder' z5_11_ (Kd.R_base ho0) hb)
           have n3_ := Aside0.mk (Kd.R_lower (Kd.R_new' (Kd.R_new' (Kd.R_new' ho0 (Kd.R_lt z5_5_)) (Kd.R_lt z5_10_)) (Kd.R_lt z5_11_)) (below_size z5_2_))
           have n4_ := Aside0.mk (blk_below (g := gb194) (o := .cells #[.slice A0_0 l0_0.length c0_0] 39 (0, 0)) z5_0_ hb)
           have n5_ := Aside0.mk (blk_below (g := gb195) (o := .cells #[.int .i64 a1_0, .int .i64 a1_1, .int .i64 a1_2] 23 (0, 0)) z5_1_ hb)
           have n6_ := Aside0.mk (blk_below (g := gb207) (o := .cells #[.slice Ao51 t203.length co51] 44 (0, 0)) z5_3_ hb)
           have n7_ := Aside0.mk (blk_below (g := gb211) (o := .cells #[.slice Ao57 t208.length co57] 44 (0, 0)) z5_4_ hb)
           have n8_ := Aside0.mk (blk_below (g := gb219) (o := .cells #[.slice none 0 0] 44 (0, 0)) z5_8_ hb)
           have n9_ := Aside0.mk (below_step z5_2_ hb)
           clear HO199
           clear HO205
           clear HO210
           clear BK194
           clear BK195
           clear BK207
           clear BK211
           clear BK219
           clear HB
           have HO199 := n0_
           have HO205 := n1_
           have HO210 := n2_
           have HO217 := n3_
           have BK194 := n4_
           have BK195 := n5_
           have BK207 := n6_
           have BK211 := n7_
           have BK219 := n8_
           have HB := n9_
           clear n0_ n1_ n2_ n3_ n4_ n5_ n6_ n7_ n8_ n9_
           (try clear hb)
           (try clear hb2)
           (try clear hk)
           (try clear hi)
           (try clear ho0)
           refine hK.out _ _ ⟨(blk_cell BK211.out 0).trans rfl, (blk_cell BK195.out 0).trans rfl, (blk_cell BK195.out 1).trans rfl, (blk_cell BK195.out 2).trans rfl⟩ (fun hHeld => ?_)
           clear hK K
           refine norm_ (a' := ?_) ?_ ?_
           rotate_left
           · show Act.put _ (some 35) _ = _
             simp only [Act.put, List.setIfInBounds_toArray, List.set_cons_zero, List.set_cons_succ, i64_w, i32_w]
             rfl
           refine pure_ (i := 4) (N := some 31) (v := ?_) (a' := ?_) #[true, true, true, true, true, false, false, true, false, false] rfl rfl (any_of HT_.out (by kernel_rfl)) (fun _ _ _ h => h) (Or.inl ⟨by rfl, ?_⟩) ?_ ?_
           rotate_left
           · intro w'
             go_simp
             with_reducible rfl
           rotate_left
           · simp only [Act.put, List.setIfInBounds_toArray, List.set_cons_zero, List.set_cons_succ, i64_w, i32_w]
             rfl
           refine pure_ (i := 5) (N := some 36) (v := ?_) (a' := ?_) #[true, true, true, true, true, true, false, true, false, false] rfl rfl (any_of HT_.out (by kernel_rfl)) (fun _ _ _ h => h) (Or.inl ⟨by rfl, ?_⟩) ?_ ?_
           rotate_left
           · intro w'
             go_simp
             with_reducible rfl
           rotate_left
           · simp only [Act.put, List.setIfInBounds_toArray, List.set_cons_zero, List.set_cons_succ, i64_w, i32_w]
             rfl
           refine pure_ (i := 6) (N := some 37) (v := ?_) (a' := ?_) #[true, true, true, true, true, true, true, true, false, false] rfl rfl (any_of HT_.out (by kernel_rfl)) (fun _ _ _ h => h) (Or.inl ⟨by rfl, ?_⟩) ?_ ?_
           rotate_left
           · intro w'
             go_simp
             with_reducible rfl
           rotate_left
           · simp only [Act.put, List.setIfInBounds_toArray, List.set_cons_zero, List.set_cons_succ, i64_w, i32_w]
             rfl
           exact norm_ z5_18_ (hCont (v216, gb219) _ ⟨hHeld, z5_31_, z5_32_, z5_33_, z5_30_, z5_0_, z5_1_, z5_3_, z5_4_, z5_8_, GW219.out, GE219.out, NB194_219.out, NB219_194.out, NB195_219.out, NB219_195.out, NB207_219.out, NB219_207.out, NB211_219.out, NB219_211.out, z5_2_⟩)
         rintro ⟨v216, gb219⟩ w67 ⟨hS_, h0_, h1_, h2_, h3_, h4_, h5_, h6_, h7_, h8_, h9_, h10_, h11_, h12_, h13_, h14_, h15_, h16_, h17_, h18_, h19_⟩
         have n0_ : Aside0 (Kd.R k25 25 w67 w.heap.size (fun k_ => some k_ ≠ (.slice Ao51 t203.length co51 : Value).ownBlock ∧ some k_ ≠ (.slice Ao57 t208.length co57 : Value).ownBlock ∧ some k_ ≠ (v216 : Value).ownBlock) v198 t197) := ⟨h0_⟩
         have n1_ : Aside0 (Kd.R k25 25 w67 w.heap.size (fun k_ => some k_ ≠ (v198 : Value).ownBlock ∧ some k_ ≠ (.slice Ao57 t208.length co57 : Value).ownBlock ∧ some k_ ≠ (v216 : Value).ownBlock) (.slice Ao51 t203.length co51) t203) := ⟨h1_⟩
         have n2_ : Aside0 (Kd.R k25 25 w67 w.heap.size (fun k_ => some k_ ≠ (v198 : Value).ownBlock ∧ some k_ ≠ (.slice Ao51 t203.length co51 : Value).ownBlock ∧ some k_ ≠ (v216 : Value).ownBlock) (.slice Ao57 t208.length co57) t208) := ⟨h2_⟩
         have n3_ : Aside0 (Kd.R k25 25 w67 w.heap.size (fun k_ => some k_ ≠ (v198 : Value).ownBlock ∧ some k_ ≠ (.slice Ao51 t203.length co51 : Value).ownBlock ∧ some k_ ≠ (.slice Ao57 t208.length co57 : Value).ownBlock) v216 t215) := ⟨h3_⟩
         have n4_ : Aside0 (w67.heap[gb194]? = some (.cells #[.slice A0_0 l0_0.length c0_0] 39 (0, 0))) := ⟨h4_⟩
         have n5_ : Aside0 (w67.heap[gb195]? = some (.cells #[.int .i64 a1_0, .int .i64 a1_1, .int .i64 a1_2] 23 (0, 0))) := ⟨h5_⟩
         have n6_ : Aside0 (w67.heap[gb207]? = some (.cells #[.slice Ao51 t203.length co51] 44 (0, 0))) := ⟨h6_⟩
         have n7_ : Aside0 (w67.heap[gb211]? = some (.cells #[.slice Ao57 t208.length co57] 44 (0, 0))) := ⟨h7_⟩
         have n8_ : Aside0 (w67.heap[gb219]? = some (.cells #[.slice none 0 0] 44 (0, 0))) := ⟨h8_⟩
         have n9_ : Aside0 (w.heap.size ≤ gb219) := ⟨h9_⟩
         have n10_ : Aside0 (w.heap.size ≤ gb219) := ⟨h10_⟩
         have n11_ : Aside0 (gb194 ≠ gb219) := ⟨h11_⟩
         have n12_ : Aside0 (gb219 ≠ gb194) := ⟨h12_⟩
         have n13_ : Aside0 (gb195 ≠ gb219) := ⟨h13_⟩
         have n14_ : Aside0 (gb219 ≠ gb195) := ⟨h14_⟩
         have n15_ : Aside0 (gb207 ≠ gb219) := ⟨h15_⟩
         have n16_ : Aside0 (gb219 ≠ gb207) := ⟨h16_⟩
         have n17_ : Aside0 (gb211 ≠ gb219) := ⟨h17_⟩
         have n18_ : Aside0 (gb219 ≠ gb211) := ⟨h18_⟩
         have n19_ : Aside0 (Below w.heap.size w w67) := ⟨h19_⟩
         clear HO199
         clear HO205
         clear HO210
         clear BK194
         clear BK195
         clear BK207
         clear BK211
         clear HB
         clear h0_ h1_ h2_ h3_ h4_ h5_ h6_ h7_ h8_ h9_ h10_ h11_ h12_ h13_ h14_ h15_ h16_ h17_ h18_ h19_
         have HO199 := n0_
         have HO205 := n1_
         have HO210 := n2_
         have HO217 := n3_
         have BK194 := n4_
         have BK195 := n5_
         have BK207 := n6_
         have BK211 := n7_
         have BK219 := n8_
         have GW219 := n9_
         have GE219 := n10_
         have NB194_219 := n11_
         have NB219_194 := n12_
         have NB195_219 := n13_
         have NB219_195 := n14_
         have NB207_219 := n15_
         have NB219_207 := n16_
         have NB211_219 := n17_
         have NB219_211 := n18_
         have HB := n19_
         clear n0_ n1_ n2_ n3_ n4_ n5_ n6_ n7_ n8_ n9_ n10_ n11_ n12_ n13_ n14_ n15_ n16_ n17_ n18_ n19_
         have hHeld : w67.cell? ⟨gb211, 0, none⟩ = some (.slice Ao57 t208.length co57) ∧ w67.cell? ⟨gb195, 0, none⟩ = some (.int .i64 a1_0) ∧ w67.cell? ⟨gb195, 1, none⟩ = some (.int .i64 a1_1) ∧ w67.cell? ⟨gb195, 2, none⟩ = some (.int .i64 a1_2) := hS_
         obtain ⟨Ao68, co68, eo68⟩ := Kd.R_slice HO217.out
         (first | subst eo68 | (injection eo68 with f1_ f2_ f3_; have f4_ := f1_.symm; have f5_ := f3_.symm; clear f1_ f2_ f3_; subst f4_; subst f5_))
         refine norm_ (a' := ?_) ?_ ?_
         rotate_left
         · simp only [putAll, Act.put, List.setIfInBounds_toArray, List.set_cons_zero, List.set_cons_succ]
           rfl
         refine one_ (i := 8) (N := none) #[true, true, true, true, true, true, true, true, true, false] rfl rfl (one_of HT_.out (by kernel_rfl)) (by decide) (fun K hK => ?_)
         have hs69 : w67.cell? ⟨gb219, 0, none⟩ = some (.slice none 0 0) := (blk_cell BK219.out 0).trans rfl
         have hfs69 := blk_frozen BK219.out 0
         have hns69_0 := NB194_219.out
         have hns69_1 := NB195_219.out
         have hns69_2 := NB207_219.out
         have hns69_3 := NB211_219.out
         have hms69_0 := NB219_194.out
         have hms69_1 := NB219_195.out
         have hms69_2 := NB219_207.out
         have hms69_3 := NB219_211.out
         refine skip_ (w1 := ?_) (by rfl) rfl ?_ ?_
         rotate_left
         · go_simp
           rfl
         refine hK.out _ _ ⟨((cell_far (p := ⟨gb219, _, none⟩) NB211_219.out _).trans (hHeld.1)), ((cell_far (p := ⟨gb219, _, none⟩) NB195_219.out _).trans (hHeld.2.1)), ((cell_far (p := ⟨gb219, _, none⟩) NB195_219.out _).trans (hHeld.2.2.1)), ((cell_far (p := ⟨gb219, _, none⟩) NB195_219.out _).trans (hHeld.2.2.2))⟩ (fun hHeld => ?_)
         clear hK K
         refine pure_ (i := 9) (N := some 10) (v := ?_) (a' := ?_) #[true, true, true, true, true, true, true, true, true, true] rfl rfl (any_of HT_.out (by kernel_rfl)) (fun _ _ _ h => h) (Or.inl ⟨by rfl, ?_⟩) ?_ ?_
         rotate_left
         · intro w'
           go_simp
           with_reducible rfl
         rotate_left
         · simp only [Act.put, List.setIfInBounds_toArray, List.set_cons_zero, List.set_cons_succ, i64_w, i32_w]
           rfl
         refine done_ (done_of HT_.out (by kernel_rfl)) ?_
         have hnb70 := NB219_194.out
         have hnc70 := NB194_219.out
         have hnb71 := NB219_195.out
         have hnc71 := NB195_219.out
         have hnb72 := NB219_207.out
         have hnc72 := NB207_219.out
         have hnb73 := NB219_211.out
         have hnc73 := NB211_219.out
         have hcz74_0 : w67.cell? ⟨gb219, 0, none⟩ = some (.slice none 0 0) := (blk_cell BK219.out 0).trans rfl
         have hfz74_0 := blk_frozen BK219.out 0
         have hnb75 := NB207_195.out
         have hnc75 := NB195_207.out
         have hcz76_0 : w67.cell? ⟨gb207, 0, none⟩ = some (.slice Ao51 t203.length co51) := (blk_cell BK207.out 0).trans rfl
         have hfz76_0 := blk_frozen BK207.out 0
         try go_wp2_with (first | ((with_reducible refine gate_callee (f := 20) rfl ?_); refine goesL_ (some 40) rfl rfl Try.func20 (by kernel_rfl) rfl #[.agg #[.slice Ao68 t215.length co68], .agg #[.slice Ao51 t203.length co51]] rfl z5_9_ ?_; (with_reducible refine (laws_eqPuzzle.calls k _ _ t215 _ _ t203 true _ ?side1 ?side2 ?side3 ?side4 A16.out).mono ?_); (case side1 => refine (Kd.R_reads' (e := 25) (base := w.heap.size) (ok := fun k_ => (some k_ ≠ (v198 : Value).ownBlock ∧ (some k_ ≠ (.slice Ao51 t203.length co51 : Value).ownBlock ∧ some k_ ≠ (.slice Ao57 t208.length co57 : Value).ownBlock))) (n := t215.length) (c := co68) ?_).2.2; exact (by (with_reducible repeat (first | apply Kd.R_alloc | apply Kd.R_drewN | apply Kd.R_drew)); exact (Kd.R_mono (Kd.R_far (p := ⟨gb219, 0, none⟩) (Kd.R_types HO217.out BK219.out (by decide)) (fun _ hk => hk.2) (.slice Ao68 t215.length co68)) (fun _ h_ => h_.1)))); (case side2 => exact (Kd.R_reads' HO217.out).2.1); (case side3 => refine (Kd.R_reads' (e := 25) (base := w.heap.size) (ok := fun k_ => (some k_ ≠ (v198 : Value).ownBlock ∧ (some k_ ≠ (.slice Ao57 t208.length co57 : Value).ownBlock ∧ some k_ ≠ (.slice Ao68 t215.length co68 : Value).ownBlock))) (n := t203.length) (c := co51) ?_).2.2; exact (by (with_reducible repeat (first | apply Kd.R_alloc | apply Kd.R_drewN | apply Kd.R_drew)); exact (Kd.R_mono (Kd.R_far (p := ⟨gb219, 0, none⟩) (Kd.R_types HO205.out BK219.out (by decide)) (fun _ hk => hk.2) (.slice Ao68 t215.length co68)) (fun _ h_ => h_.1)))); (case side4 => exact (Kd.R_reads' HO205.out).2.1); rintro e w77 ⟨rfl, hb⟩; refine ⟨_, rfl, ?_⟩; have n0_ := Aside0.mk (Kd.R_below (by (with_reducible repeat (first | apply Kd.R_alloc | apply Kd.R_drewN | apply Kd.R_drew)); exact (Kd.R_mono (Kd.R_far (p := ⟨gb219, 0, none⟩) (Kd.R_types HO199.out BK219.out (by decide)) (fun _ hk => hk.2) (.slice Ao68 t215.length co68)) (fun _ h_ => h_.1))) hb); have n1_ := Aside0.mk (Kd.R_below (by (with_reducible repeat (first | apply Kd.R_alloc | apply Kd.R_drewN | apply Kd.R_drew)); exact (Kd.R_mono (Kd.R_far (p := ⟨gb219, 0, none⟩) (Kd.R_types HO205.out BK219.out (by decide)) (fun _ hk => hk.2) (.slice Ao68 t215.length co68)) (fun _ h_ => h_.1))) hb); have n2_ := Aside0.mk (Kd.R_below (by (with_reducible repeat (first | apply Kd.R_alloc | apply Kd.R_drewN | apply Kd.R_drew)); exact (Kd.R_mono (Kd.R_far (p := ⟨gb219, 0, none⟩) (Kd.R_types HO210.out BK219.out (by decide)) (fun _ hk => hk.2) (.slice Ao68 t215.length co68)) (fun _ h_ => h_.1))) hb); have n3_ := Aside0.mk (Kd.R_below (by (with_reducible repeat (first | apply Kd.R_alloc | apply Kd.R_drewN | apply Kd.R_drew)); exact (Kd.R_mono (Kd.R_far (p := ⟨gb219, 0, none⟩) (Kd.R_types HO217.out BK219.out (by decide)) (fun _ hk => hk.2) (.slice Ao68 t215.length co68)) (fun _ h_ => h_.1))) hb); have n4_ := Aside0.mk (blk_below (g := gb194) (o := .cells #[.slice A0_0 l0_0.length c0_0] 39 (0, 0)) (by (with_reducible repeat (first | refine blk_drewN ?_ _ | refine blk_drew ?_ | refine blk_alloc ?_ _)); refine blk_far ?_ NB194_219.out _; (with_reducible repeat (first | refine blk_drewN ?_ _ | refine blk_drew ?_ | refine blk_alloc ?_ _)); exact BK194.out) hb); have n5_ := Aside0.mk (blk_below (g := gb195) (o := .cells #[.int .i64 a1_0, .int .i64 a1_1, .int .i64 a1_2] 23 (0, 0)) (by (with_reducible repeat (first | refine blk_drewN ?_ _ | refine blk_drew ?_ | refine blk_alloc ?_ _)); refine blk_far ?_ NB195_219.out _; (with_reducible repeat (first | refine blk_drewN ?_ _ | refine blk_drew ?_ | refine blk_alloc ?_ _)); exact BK195.out) hb); have n6_ := Aside0.mk (blk_below (g := gb207) (o := .cells #[.slice Ao51 t203.length co51] 44 (0, 0)) (by (with_reducible repeat (first | refine blk_drewN ?_ _ | refine blk_drew ?_ | refine blk_alloc ?_ _)); refine blk_far ?_ NB207_219.out _; (with_reducible repeat (first | refine blk_drewN ?_ _ | refine blk_drew ?_ | refine blk_alloc ?_ _)); exact BK207.out) hb); have n7_ := Aside0.mk (blk_below (g := gb211) (o := .cells #[.slice Ao57 t208.length co57] 44 (0, 0)) (by (with_reducible repeat (first | refine blk_drewN ?_ _ | refine blk_drew ?_ | refine blk_alloc ?_ _)); refine blk_far ?_ NB211_219.out _; (with_reducible repeat (first | refine blk_drewN ?_ _ | refine blk_drew ?_ | refine blk_alloc ?_ _)); exact BK211.out) hb); have n8_ := Aside0.mk (blk_below (g := gb219) (o := .cells #[.slice Ao68 t215.length co68] 44 (0, 0)) (by (with_reducible repeat (first | refine blk_drewN ?_ _ | refine blk_drew ?_ | refine blk_alloc ?_ _)); refine blk_put (cs := #[.slice none 0 0]) ?_ 0 _ rfl; (with_reducible repeat (first | refine blk_drewN ?_ _ | refine blk_drew ?_ | refine blk_alloc ?_ _)); exact BK219.out) hb); have n9_ := Aside0.mk (below_step z5_2_ hb); clear HO199; clear HO205; clear HO210; clear HO217; clear BK194; clear BK195; clear BK207; clear BK211; clear BK219; clear HB; have HO199 := n0_; have HO205 := n1_; have HO210 := n2_; have HO217 := n3_; have BK194 := n4_; have BK195 := n5_; have BK207 := n6_; have BK211 := n7_; have BK219 := n8_; have HB := n9_; clear n0_ n1_ n2_ n3_ n4_ n5_ n6_ n7_ n8_ n9_; (try clear hb); (try clear hb2); (try clear hk); (try clear hi)))
         have n0_ := Aside0.mk (Kd.R_drew HO199.out)
         have n1_ := Aside0.mk (Kd.R_drew HO205.out)
         have n2_ := Aside0.mk (Kd.R_drew HO210.out)
         have n3_ := Aside0.mk (Kd.R_drew HO217.out)
         have n4_ := Aside0.mk (blk_drew BK194.out)
         have n5_ := Aside0.mk (blk_drew BK195.out)
         have n6_ := Aside0.mk (blk_drew BK207.out)
         have n7_ := Aside0.mk (blk_drew BK211.out)
         have n8_ := Aside0.mk (blk_drew BK219.out)
         have n9_ := Aside0.mk (below_drew1 HB.out)
         clear HO199
         clear HO205
         clear HO210
         clear HO217
         clear BK194
         clear BK195
         clear BK207
         clear BK211
         clear BK219
         clear HB
         have HO199 := n0_
         have HO205 := n1_
         have HO210 := n2_
         have HO217 := n3_
         have BK194 := n4_
         have BK195 := n5_
         have BK207 := n6_
         have BK211 := n7_
         have BK219 := n8_
         have HB := n9_
         clear n0_ n1_ n2_ n3_ n4_ n5_ n6_ n7_ n8_ n9_
         refine start_ (n := 5) (S := fun w' => w'.cell? ⟨gb211, 0, none⟩ = some (.slice Ao57 t208.length co57) ∧ w'.cell? ⟨gb194, 0, none⟩ = some (.slice A0_0 l0_0.length c0_0)) (ds := []) #[false, false, false, false, false] (by kernel_rfl) rfl rfl ⟨(blk_cell BK211.out 0).trans rfl, (blk_cell BK194.out 0).trans rfl⟩ (fun hHeld => ?_)
         generalize w77.drew = w78 at HO199 HO205 HO210 HO217 BK194 BK195 BK207 BK211 BK219 HB hHeld ⊢
         refine take_ (i := 0) (N := some 47) (v := ?_) (a' := ?_) #[true, false, false, false, false] rfl rfl (by kernel_rfl) (fun _ _ _ h => h) (Or.inl ⟨by rfl, ?_⟩) hHeld ?_ ?_
         rotate_left
         · rintro w' ⟨s0, s1⟩
           go_simp
           with_reducible rfl
         rotate_left
         · simp only [Act.put, List.setIfInBounds_toArray, List.set_cons_zero, List.set_cons_succ, i64_w, i32_w]
           rfl
         refine take_ (i := 1) (N := some 48) (v := ?_) (a' := ?_) #[true, true, false, false, false] rfl rfl (by kernel_rfl) (fun _ _ _ h => h) (Or.inl ⟨by rfl, ?_⟩) hHeld ?_ ?_
         rotate_left
         · rintro w' ⟨s0, s1⟩
           go_simp
           with_reducible rfl
         rotate_left
         · simp only [Act.put, List.setIfInBounds_toArray, List.set_cons_zero, List.set_cons_succ, i64_w, i32_w]
           rfl
         refine one_ (i := 2) (N := some 49) #[true, true, true, false, false] rfl rfl (by kernel_rfl) (by decide) (fun K hK => ?_)
         refine goes_ Try.func18 (by kernel_rfl) rfl #[.agg #[.slice A0_0 l0_0.length c0_0]] (by rfl) rfl rfl z5_9_ ?_
         with_reducible refine (laws_toPuzzle.calls k _ _ l0_0 t222 _ ?side1 ?side2 A19.out).mono ?_
         (case side1 => repeat (first | exact (Kd.C_below HR0_0.out HB.out) | (with_reducible refine Kd.C_alloc ?_ _) | (with_reducible refine Kd.C_drewN ?_ _) | (with_reducible refine Kd.C_drew ?_)))
         (case side2 => exact HC0_0.out)
         rintro e w79 ⟨v223, rfl, ho0, hb⟩
         refine ⟨_, rfl, ?_⟩
         have n0_ := Aside0.mk (Kd.R_elder' z5_5_ (Kd.R_base ho0) hb)
         have n1_ := Aside0.mk (Kd.R_elder' z5_10_ (Kd.R_base ho0) hb)
         have n2_ := Aside0.mk (Kd.R_elder' z5_11_ (Kd.R_base ho0) hb)
         have n3_ := Aside0.mk (Kd.R_elder' z5_14_ (Kd.R_base ho0) hb)
         have n4_ := Aside0.mk (Kd.R_lower (Kd.R_new' (Kd.R_new' (Kd.R_new' (Kd.R_new' ho0 (Kd.R_lt z5_5_)) (Kd.R_lt z5_10_)) (Kd.R_lt z5_11_)) (Kd.R_lt z5_14_)) (below_size z5_2_))
         have n5_ := Aside0.mk (blk_below (g := gb194) (o := .cells #[.slice A0_0 l0_0.length c0_0] 39 (0, 0)) z5_0_ hb)
         have n6_ := Aside0.mk (blk_below (g := gb195) (o := .cells #[.int .i64 a1_0, .int .i64 a1_1, .int .i64 a1_2] 23 (0, 0)) z5_1_ hb)
         have n7_ := Aside0.mk (blk_below (g := gb207) (o := .cells #[.slice Ao51 t203.length co51] 44 (0, 0)) z5_3_ hb)
         have n8_ := Aside0.mk (blk_below (g := gb211) (o := .cells #[.slice Ao57 t208.length co57] 44 (0, 0)) z5_4_ hb)
         have n9_ := Aside0.mk (blk_below (g := gb219) (o := .cells #[.slice Ao68 t215.length co68] 44 (0, 0)) z5_8_ hb)
         have n10_ := Aside0.mk (below_step z5_2_ hb)
         clear HO199
         clear HO205
         clear HO210
         clear HO217
         clear BK194
         clear BK195
         clear BK207
         clear BK211
         clear BK219
         clear HB
         have HO199 := n0_
         have HO205 := n1_
         have HO210 := n2_
         have HO217 := n3_
         have HO224 := n4_
         have BK194 := n5_
         have BK195 := n6_
         have BK207 := n7_
         have BK211 := n8_
         have BK219 := n9_
         have HB := n10_
         clear n0_ n1_ n2_ n3_ n4_ n5_ n6_ n7_ n8_ n9_ n10_
         (try clear hb)
         (try clear hb2)
         (try clear hk)
         (try clear hi)
         (try clear ho0)
         obtain ⟨Ao80, co80, eo80⟩ := Kd.R_slice HO224.out
         (first | subst eo80 | (injection eo80 with f1_ f2_ f3_; have f4_ := f1_.symm; have f5_ := f3_.symm; clear f1_ f2_ f3_; subst f4_; subst f5_))
         refine hK.out _ _ ⟨(blk_cell BK211.out 0).trans rfl, (blk_cell BK194.out 0).trans rfl⟩ (fun hHeld => ?_)
         clear hK K
         refine norm_ (a' := ?_) ?_ ?_
         rotate_left
         · show Act.put _ (some 49) _ = _
           simp only [Act.put, List.setIfInBounds_toArray, List.set_cons_zero, List.set_cons_succ, i64_w, i32_w]
           rfl
         refine one_ (i := 3) (N := some 50) #[true, true, true, true, false] rfl rfl (by kernel_rfl) (by decide) (fun K hK => ?_)
         refine goes_ Try.func20 (by kernel_rfl) rfl #[.agg #[.slice Ao57 t208.length co57], .agg #[.slice Ao80 t222.length co80]] (by rfl) rfl rfl z5_9_ ?_
         with_reducible refine (laws_eqPuzzle.calls k _ _ t208 _ _ t222 true _ ?side1 ?side2 ?side3 ?side4 A20.out).mono ?_
         (case side1 => repeat (first | exact (Kd.R_reads' HO210.out).2.2 | (with_reducible refine Kd.C_alloc ?_ _) | (with_reducible refine Kd.C_drewN ?_ _) | (with_reducible refine Kd.C_drew ?_)))
         (case side2 => exact (Kd.R_reads' HO210.out).2.1)
         (case side3 => repeat (first | exact (Kd.R_reads' HO224.out).2.2 | (with_reducible refine Kd.C_alloc ?_ _) | (with_reducible refine Kd.C_drewN ?_ _) | (with_reducible refine Kd.C_drew ?_)))
         (case side4 => exact (Kd.R_reads' HO224.out).2.1)
         rintro e w81 ⟨rfl, hb⟩
         refine ⟨_, rfl, ?_⟩
         have n0_ := Aside0.mk (Kd.R_below z5_5_ hb)
         have n1_ := Aside0.mk (Kd.R_below z5_10_ hb)
         have n2_ := Aside0.mk (Kd.R_below z5_11_ hb)
         have n3_ := Aside0.mk (Kd.R_below z5_14_ hb)
         have n4_ := Aside0.mk (Kd.R_below z5_15_ hb)
         have n5_ := Aside0.mk (blk_below (g := gb194) (o := .cells #[.slice A0_0 l0_0.length c0_0] 39 (0, 0)) z5_0_ hb)
         have n6_ := Aside0.mk (blk_below (g := gb195) (o := .cells #[.int .i64 a1_0, .int .i64 a1_1, .int .i64 a1_2] 23 (0, 0)) z5_1_ hb)
         have n7_ := Aside0.mk (blk_below (g := gb207) (o := .cells #[.slice Ao51 t203.length co51] 44 (0, 0)) z5_3_ hb)
         have n8_ := Aside0.mk (blk_below (g := gb211) (o := .cells #[.slice Ao57 t208.length co57] 44 (0, 0)) z5_4_ hb)
         have n9_ := Aside0.mk (blk_below (g := gb219) (o := .cells #[.slice Ao68 t215.length co68] 44 (0, 0)) z5_8_ hb)
         have n10_ := Aside0.mk (below_step z5_2_ hb)
         clear HO199
         clear HO205
         clear HO210
         clear HO217
         clear HO224
         clear BK194
         clear BK195
         clear BK207
         clear BK211
         clear BK219
         clear HB
         have HO199 := n0_
         have HO205 := n1_
         have HO210 := n2_
         have HO217 := n3_
         have HO224 := n4_
         have BK194 := n5_
         have BK195 := n6_
         have BK207 := n7_
         have BK211 := n8_
         have BK219 := n9_
         have HB := n10_
         clear n0_ n1_ n2_ n3_ n4_ n5_ n6_ n7_ n8_ n9_ n10_
         (try clear hb)
         (try clear hb2)
         (try clear hk)
         (try clear hi)
         refine hK.out _ _ ⟨(blk_cell BK211.out 0).trans rfl, (blk_cell BK194.out 0).trans rfl⟩ (fun hHeld => ?_)
         clear hK K
         refine norm_ (a' := ?_) ?_ ?_
         rotate_left
         · show Act.put _ (some 50) _ = _
           simp only [Act.put, List.setIfInBounds_toArray, List.set_cons_zero, List.set_cons_succ, i64_w, i32_w]
           rfl
         refine pure_ (i := 4) (N := some 51) (v := ?_) (a' := ?_) #[true, true, true, true, true] rfl rfl (by kernel_rfl) (fun _ _ _ h => h) (Or.inl ⟨by rfl, ?_⟩) ?_ ?_
         rotate_left
         · intro w'
           go_simp
           with_reducible rfl
         rotate_left
         · simp only [Act.put, List.setIfInBounds_toArray, List.set_cons_zero, List.set_cons_succ, i64_w, i32_w]
           rfl
         refine done_ (by kernel_rfl) ?_
         have hcz82_0 : w81.cell? ⟨gb211, 0, none⟩ = some (.slice Ao57 t208.length co57) := (blk_cell BK211.out 0).trans rfl
         have hfz82_0 := blk_frozen BK211.out 0
         try go_wp2_with (first | ((with_reducible refine gate_callee (f := 23) rfl ?_); refine goesL_ (some 54) rfl rfl Try.func23 (by kernel_rfl) rfl #[.agg #[.slice Ao57 t208.length co57], .int .i64 1] rfl z5_9_ ?_; (with_reducible refine (laws_markPuzzle.calls k (fun k_ => some k_ = (.slice Ao57 t208.length co57 : Value).ownBlock) (.slice Ao57 t208.length co57) t208 1 t226 t227 w _ ?side1 ?side2 A22.out).mono ?_); (case side1 => repeat (first | (with_reducible first | exact HB.out | apply below_alloc | apply pw_below_drewN | apply below_drew1 | refine below_set ?_ GE194.out | refine below_set ?_ GE195.out | refine below_set ?_ GE207.out | refine below_set ?_ GE211.out | refine below_set ?_ GE219.out) | exact HB.out)); (case side2 => exact Kd.R_tight rfl HO210.out); rintro e w83 ⟨rfl, hy0, hb, hkp⟩; refine ⟨_, rfl, ?_⟩; have n0_ := Aside0.mk (blk_kept z5_0_ hkp (fun hs_ => (fun e_ => (Kd.R_ne HO210.out BK194.out (by decide)) e_) hs_)); have n1_ := Aside0.mk (blk_kept z5_1_ hkp (fun hs_ => (fun e_ => (Kd.R_ne HO210.out BK195.out (by decide)) e_) hs_)); have n2_ := Aside0.mk (Kd.R_mono (ok' := fun k_ => some k_ ≠ (.slice Ao51 t203.length co51 : Value).ownBlock ∧ some k_ ≠ (.slice Ao57 t208.length co57 : Value).ownBlock ∧ some k_ ≠ (.slice Ao68 t215.length co68 : Value).ownBlock ∧ some k_ ≠ (.slice Ao80 t222.length co80 : Value).ownBlock) (Kd.R_keptB (HO199.out) hkp (fun k_ hk_ hs_ => (hk_.1.2.1) hs_)) (fun k_ hk_ => ⟨hk_.1.1.1, hk_.1.1.2.1, hk_.1.1.2.2, hk_.1.2⟩)); have n3_ := Aside0.mk (Kd.R_mono (ok' := fun k_ => some k_ ≠ (v198 : Value).ownBlock ∧ some k_ ≠ (.slice Ao57 t208.length co57 : Value).ownBlock ∧ some k_ ≠ (.slice Ao68 t215.length co68 : Value).ownBlock ∧ some k_ ≠ (.slice Ao80 t222.length co80 : Value).ownBlock) (Kd.R_keptB (HO205.out) hkp (fun k_ hk_ hs_ => (hk_.1.2.1) hs_)) (fun k_ hk_ => ⟨hk_.1.1.1, hk_.1.1.2.1, hk_.1.1.2.2, hk_.1.2⟩)); have n4_ := Aside0.mk (blk_kept z5_3_ hkp (fun hs_ => (fun e_ => (Kd.R_ne HO210.out BK207.out (by decide)) e_) hs_)); have n5_ := Aside0.mk (Kd.R_reok rfl hy0 (fun k_ e_ => HO210.out.1 k_ e_)); have n6_ := Aside0.mk (blk_kept z5_4_ hkp (fun hs_ => (fun e_ => (Kd.R_ne HO210.out BK211.out (by decide)) e_) hs_)); have n7_ := Aside0.mk (Kd.R_mono (ok' := fun k_ => some k_ ≠ (v198 : Value).ownBlock ∧ some k_ ≠ (.slice Ao51 t203.length co51 : Value).ownBlock ∧ some k_ ≠ (.slice Ao57 t208.length co57 : Value).ownBlock ∧ some k_ ≠ (.slice Ao80 t222.length co80 : Value).ownBlock) (Kd.R_keptB (HO217.out) hkp (fun k_ hk_ hs_ => (hk_.1.2.2) hs_)) (fun k_ hk_ => ⟨hk_.1.1.1, hk_.1.1.2.1, hk_.1.1.2.2, hk_.1.2⟩)); have n8_ := Aside0.mk (blk_kept z5_8_ hkp (fun hs_ => (fun e_ => (Kd.R_ne HO210.out BK219.out (by decide)) e_) hs_)); have n9_ := Aside0.mk (Kd.R_mono (ok' := fun k_ => some k_ ≠ (v198 : Value).ownBlock ∧ some k_ ≠ (.slice Ao51 t203.length co51 : Value).ownBlock ∧ some k_ ≠ (.slice Ao57 t208.length co57 : Value).ownBlock ∧ some k_ ≠ (.slice Ao68 t215.length co68 : Value).ownBlock) (Kd.R_keptB (HO224.out) hkp (fun k_ hk_ hs_ => (hk_.1.2) hs_)) (fun k_ hk_ => ⟨hk_.1.1.1.1.2, hk_.1.1.1.2, hk_.1.1.2, hk_.1.2⟩)); have n10_ := Aside0.mk (hb); clear BK194; clear BK195; clear HO199; clear HO205; clear BK207; clear HO210; clear BK211; clear HO217; clear BK219; clear HO224; clear HB; have BK194 := n0_; have BK195 := n1_; have HO199 := n2_; have HO205 := n3_; have BK207 := n4_; have HO210 := n5_; have BK211 := n6_; have HO217 := n7_; have BK219 := n8_; have HO224 := n9_; have HB := n10_; clear n0_ n1_ n2_ n3_ n4_ n5_ n6_ n7_ n8_ n9_ n10_; (try clear hb); (try clear hkp); (try clear hy0); have hcz84_0 : w83.cell? ⟨gb219, 0, none⟩ = some (.slice Ao68 t215.length co68) := (blk_cell BK219.out 0).trans rfl; have hfz84_0 := blk_frozen BK219.out 0; have hcz85_0 : w83.cell? ⟨gb207, 0, none⟩ = some (.slice Ao51 t203.length co51) := (blk_cell BK207.out 0).trans rfl; have hfz85_0 := blk_frozen BK207.out 0) | (go_at_call 20; (with_reducible refine (laws_eqPuzzle.calls k _ _ t215 _ _ t203 true _ ?side1 ?side2 ?side3 ?side4 A24.out).mono ?_); (case side1 => repeat (first | exact (Kd.R_reads' HO217.out).2.2 | (with_reducible refine Kd.C_alloc ?_ _) | (with_reducible refine Kd.C_drewN ?_ _) | (with_reducible refine Kd.C_drew ?_))); (case side2 => exact (Kd.R_reads' HO217.out).2.1); (case side3 => repeat (first | exact (Kd.R_reads' HO205.out).2.2 | (with_reducible refine Kd.C_alloc ?_ _) | (with_reducible refine Kd.C_drewN ?_ _) | (with_reducible refine Kd.C_drew ?_))); (case side4 => exact (Kd.R_reads' HO205.out).2.1); rintro e w86 ⟨rfl, hb⟩; have n0_ := Aside0.mk (Kd.R_below z5_5_ hb); have n1_ := Aside0.mk (Kd.R_below z5_10_ hb); have n2_ := Aside0.mk (Kd.R_below z5_11_ hb); have n3_ := Aside0.mk (Kd.R_below z5_14_ hb); have n4_ := Aside0.mk (Kd.R_below z5_15_ hb); have n5_ := Aside0.mk (blk_below (g := gb194) (o := .cells #[.slice A0_0 l0_0.length c0_0] 39 (0, 0)) z5_0_ hb); have n6_ := Aside0.mk (blk_below (g := gb195) (o := .cells #[.int .i64 a1_0, .int .i64 a1_1, .int .i64 a1_2] 23 (0, 0)) z5_1_ hb); have n7_ := Aside0.mk (blk_below (g := gb207) (o := .cells #[.slice Ao51 t203.length co51] 44 (0, 0)) z5_3_ hb); have n8_ := Aside0.mk (blk_below (g := gb211) (o := .cells #[.slice Ao57 t208.length co57] 44 (0, 0)) z5_4_ hb); have n9_ := Aside0.mk (blk_below (g := gb219) (o := .cells #[.slice Ao68 t215.length co68] 44 (0, 0)) z5_8_ hb); have n10_ := Aside0.mk (below_step z5_2_ hb); clear HO199; clear HO205; clear HO210; clear HO217; clear HO224; clear BK194; clear BK195; clear BK207; clear BK211; clear BK219; clear HB; have HO199 := n0_; have HO205 := n1_; have HO210 := n2_; have HO217 := n3_; have HO224 := n4_; have BK194 := n5_; have BK195 := n6_; have BK207 := n7_; have BK211 := n8_; have BK219 := n9_; have HB := n10_; clear n0_ n1_ n2_ n3_ n4_ n5_ n6_ n7_ n8_ n9_ n10_; (try clear hb); (try clear hb2); (try clear hk); (try clear hi); have hcz87_0 : w86.cell? ⟨gb219, 0, none⟩ = some (.slice Ao68 t215.length co68) := (blk_cell BK219.out 0).trans rfl; have hfz87_0 := blk_frozen BK219.out 0) | ((with_reducible refine gate_callee (f := 23) rfl ?_); refine goesL_ (some 70) rfl rfl Try.func23 (by kernel_rfl) rfl #[.agg #[.slice Ao68 t215.length co68], .int .i64 1] rfl z5_9_ ?_; (with_reducible refine (laws_markPuzzle.calls k (fun k_ => some k_ = (.slice Ao68 t215.length co68 : Value).ownBlock) (.slice Ao68 t215.length co68) t215 1 t230 t231 w _ ?side1 ?side2 A26.out).mono ?_); (case side1 => repeat (first | (with_reducible first | exact HB.out | apply below_alloc | apply pw_below_drewN | apply below_drew1 | refine below_set ?_ GE194.out | refine below_set ?_ GE195.out | refine below_set ?_ GE207.out | refine below_set ?_ GE211.out | refine below_set ?_ GE219.out) | exact HB.out)); (case side2 => exact Kd.R_tight rfl HO217.out); rintro e w88 ⟨rfl, hy0, hb, hkp⟩; refine ⟨_, rfl, ?_⟩; have n0_ := Aside0.mk (blk_kept z5_0_ hkp (fun hs_ => (fun e_ => (Kd.R_ne HO217.out BK194.out (by decide)) e_) hs_)); have n1_ := Aside0.mk (blk_kept z5_1_ hkp (fun hs_ => (fun e_ => (Kd.R_ne HO217.out BK195.out (by decide)) e_) hs_)); have n2_ := Aside0.mk (Kd.R_mono (ok' := fun k_ => some k_ ≠ (.slice Ao51 t203.length co51 : Value).ownBlock ∧ some k_ ≠ (.slice Ao57 t208.length co57 : Value).ownBlock ∧ some k_ ≠ (.slice Ao68 t215.length co68 : Value).ownBlock ∧ some k_ ≠ (.slice Ao80 t222.length co80 : Value).ownBlock) (Kd.R_keptB (HO199.out) hkp (fun k_ hk_ hs_ => (hk_.2.2.1) hs_)) (fun k_ hk_ => ⟨hk_.1.1, hk_.1.2.1, hk_.1.2.2.1, hk_.1.2.2.2⟩)); have n3_ := Aside0.mk (Kd.R_mono (ok' := fun k_ => some k_ ≠ (v198 : Value).ownBlock ∧ some k_ ≠ (.slice Ao57 t208.length co57 : Value).ownBlock ∧ some k_ ≠ (.slice Ao68 t215.length co68 : Value).ownBlock ∧ some k_ ≠ (.slice Ao80 t222.length co80 : Value).ownBlock) (Kd.R_keptB (HO205.out) hkp (fun k_ hk_ hs_ => (hk_.2.2.1) hs_)) (fun k_ hk_ => ⟨hk_.1.1, hk_.1.2.1, hk_.1.2.2.1, hk_.1.2.2.2⟩)); have n4_ := Aside0.mk (blk_kept z5_3_ hkp (fun hs_ => (fun e_ => (Kd.R_ne HO217.out BK207.out (by decide)) e_) hs_)); have n5_ := Aside0.mk (Kd.R_mono (ok' := fun k_ => some k_ ≠ (v198 : Value).ownBlock ∧ some k_ ≠ (.slice Ao51 t203.length co51 : Value).ownBlock ∧ some k_ ≠ (.slice Ao68 t215.length co68 : Value).ownBlock ∧ some k_ ≠ (.slice Ao80 t222.length co80 : Value).ownBlock) (Kd.R_keptB (HO210.out) hkp (fun k_ hk_ hs_ => (hk_.1.2.2) hs_)) (fun k_ hk_ => ⟨hk_.1.1.1, hk_.1.1.2.1, hk_.1.1.2.2, hk_.1.2⟩)); have n6_ := Aside0.mk (blk_kept z5_4_ hkp (fun hs_ => (fun e_ => (Kd.R_ne HO217.out BK211.out (by decide)) e_) hs_)); have n7_ := Aside0.mk (Kd.R_reok rfl hy0 (fun k_ e_ => HO217.out.1 k_ e_)); have n8_ := Aside0.mk (blk_kept z5_8_ hkp (fun hs_ => (fun e_ => (Kd.R_ne HO217.out BK219.out (by decide)) e_) hs_)); have n9_ := Aside0.mk (Kd.R_mono (ok' := fun k_ => some k_ ≠ (v198 : Value).ownBlock ∧ some k_ ≠ (.slice Ao51 t203.length co51 : Value).ownBlock ∧ some k_ ≠ (.slice Ao57 t208.length co57 : Value).ownBlock ∧ some k_ ≠ (.slice Ao68 t215.length co68 : Value).ownBlock) (Kd.R_keptB (HO224.out) hkp (fun k_ hk_ hs_ => (hk_.2.2.2) hs_)) (fun k_ hk_ => ⟨hk_.1.1, hk_.1.2.1, hk_.1.2.2.1, hk_.1.2.2.2⟩)); have n10_ := Aside0.mk (hb); clear BK194; clear BK195; clear HO199; clear HO205; clear BK207; clear HO210; clear BK211; clear HO217; clear BK219; clear HO224; clear HB; have BK194 := n0_; have BK195 := n1_; have HO199 := n2_; have HO205 := n3_; have BK207 := n4_; have HO210 := n5_; have BK211 := n6_; have HO217 := n7_; have BK219 := n8_; have HO224 := n9_; have HB := n10_; clear n0_ n1_ n2_ n3_ n4_ n5_ n6_ n7_ n8_ n9_ n10_; (try clear hb); (try clear hkp); (try clear hy0); have hcz89_0 : w88.cell? ⟨gb219, 0, none⟩ = some (.slice Ao68 t215.length co68) := (blk_cell BK219.out 0).trans rfl; have hfz89_0 := blk_frozen BK219.out 0) | ((with_reducible refine gate_callee (f := 24) rfl ?_); refine goesL_ (some 73) rfl rfl Try.func24 (by kernel_rfl) rfl #[.agg #[.slice Ao68 t231.length co68], .int .i64 1] rfl z5_34_ ?_; (with_reducible refine (laws_heldPuzzle.calls k _ _ t231 1 t232 _ ?side1 ?side2 A27.out).mono ?_); (case side1 => repeat (first | exact (Kd.R_reads' HO217.out).2.2 | (with_reducible refine Kd.C_alloc ?_ _) | (with_reducible refine Kd.C_drewN ?_ _) | (with_reducible refine Kd.C_drew ?_))); (case side2 => rw [show t231.length = t215.length from (Kd.R_reads' HO217.out).1.symm]; exact (Kd.R_reads' HO217.out).2.1); rintro e w90 ⟨rfl, hb⟩; refine ⟨_, rfl, ?_⟩; have n0_ := Aside0.mk (Kd.R_below z5_5_ hb); have n1_ := Aside0.mk (Kd.R_below z5_10_ hb); have n2_ := Aside0.mk (Kd.R_below z5_11_ hb); have n3_ := Aside0.mk (Kd.R_below z5_14_ hb); have n4_ := Aside0.mk (Kd.R_below z5_15_ hb); have n5_ := Aside0.mk (blk_below (g := gb194) (o := .cells #[.slice A0_0 l0_0.length c0_0] 39 (0, 0)) z5_0_ hb); have n6_ := Aside0.mk (blk_below (g := gb195) (o := .cells #[.int .i64 a1_0, .int .i64 a1_1, .int .i64 a1_2] 23 (0, 0)) z5_1_ hb); have n7_ := Aside0.mk (blk_below (g := gb207) (o := .cells #[.slice Ao51 t203.length co51] 44 (0, 0)) z5_3_ hb); have n8_ := Aside0.mk (blk_below (g := gb211) (o := .cells #[.slice Ao57 t208.length co57] 44 (0, 0)) z5_4_ hb); have n9_ := Aside0.mk (blk_below (g := gb219) (o := .cells #[.slice Ao68 t215.length co68] 44 (0, 0)) z5_8_ hb); have n10_ := Aside0.mk (below_step z5_2_ hb); clear HO199; clear HO205; clear HO210; clear HO217; clear HO224; clear BK194; clear BK195; clear BK207; clear BK211; clear BK219; clear HB; have HO199 := n0_; have HO205 := n1_; have HO210 := n2_; have HO217 := n3_; have HO224 := n4_; have BK194 := n5_; have BK195 := n6_; have BK207 := n7_; have BK211 := n8_; have BK219 := n9_; have HB := n10_; clear n0_ n1_ n2_ n3_ n4_ n5_ n6_ n7_ n8_ n9_ n10_; (try clear hb); (try clear hb2); (try clear hk); (try clear hi)))
         have n0_ := Aside0.mk (Kd.R_drew HO199.out)
         have n1_ := Aside0.mk (Kd.R_drew HO205.out)
         have n2_ := Aside0.mk (Kd.R_drew HO210.out)
         have n3_ := Aside0.mk (Kd.R_drew HO217.out)
         have n4_ := Aside0.mk (Kd.R_drew HO224.out)
         have n5_ := Aside0.mk (blk_drew BK194.out)
         have n6_ := Aside0.mk (blk_drew BK195.out)
         have n7_ := Aside0.mk (blk_drew BK207.out)
         have n8_ := Aside0.mk (blk_drew BK211.out)
         have n9_ := Aside0.mk (blk_drew BK219.out)
         have n10_ := Aside0.mk (below_drew1 HB.out)
         clear HO199
         clear HO205
         clear HO210
         clear HO217
         clear HO224
         clear BK194
         clear BK195
         clear BK207
         clear BK211
         clear BK219
         clear HB
         have HO199 := n0_
         have HO205 := n1_
         have HO210 := n2_
         have HO217 := n3_
         have HO224 := n4_
         have BK194 := n5_
         have BK195 := n6_
         have BK207 := n7_
         have BK211 := n8_
         have BK219 := n9_
         have HB := n10_
         clear n0_ n1_ n2_ n3_ n4_ n5_ n6_ n7_ n8_ n9_ n10_
         refine start_ (n := 11) (S := fun w' => w'.cell? ⟨gb194, 0, none⟩ = some (.slice A0_0 l0_0.length c0_0) ∧ w'.cell? ⟨gb195, 0, none⟩ = some (.int .i64 a1_0) ∧ w'.cell? ⟨gb195, 1, none⟩ = some (.int .i64 a1_1) ∧ w'.cell? ⟨gb195, 2, none⟩ = some (.int .i64 a1_2)) (ds := []) #[false, false, false, false, false, false, false, false, false, false, false] (by kernel_rfl) rfl rfl ⟨(blk_cell BK194.out 0).trans rfl, (blk_cell BK195.out 0).trans rfl, (blk_cell BK195.out 1).trans rfl, (blk_cell BK195.out 2).trans rfl⟩ (fun hHeld => ?_); refine with_tabW laws_FnExactAddClue.tab24 laws_FnExactAddClue.bits24 (fun HT_ HW_ => ?_)
         generalize w90.drew = w91 at HO199 HO205 HO210 HO217 HO224 BK194 BK195 BK207 BK211 BK219 HB hHeld ⊢
         refine take_ (i := 0) (N := some 80) (v := ?_) (a' := ?_) #[true, false, false, false, false, false, false, false, false, false, false] rfl rfl (take_ofW HT_.out HW_.out (by kernel_rfl)) (fun _ _ _ h => h) (Or.inl ⟨by rfl, ?_⟩) hHeld ?_ ?_
         rotate_left
         · rintro w' ⟨s0, s1, s2, s3⟩
           go_simp
           with_reducible rfl
         rotate_left
         · simp only [Act.put, List.setIfInBounds_toArray, List.set_cons_zero, List.set_cons_succ, i64_w, i32_w]
           rfl
         refine take_ (i := 2) (N := some 82) (v := ?_) (a' := ?_) #[true, false, true, false, false, false, false, false, false, false, false] rfl rfl (take_ofW HT_.out HW_.out (by kernel_rfl)) (fun _ _ _ h => h) (Or.inl ⟨by rfl, ?_⟩) hHeld ?_ ?_
         rotate_left
         · rintro w' ⟨s0, s1, s2, s3⟩
           go_simp
           with_reducible rfl
         rotate_left
         · simp only [Act.put, List.setIfInBounds_toArray, List.set_cons_zero, List.set_cons_succ, i64_w, i32_w]
           rfl
         refine join_ (σ := Value × Value × Nat) 2 #[true, true, true, true, true, true, true, true, true, false, false] (fun s_ => [(81, .agg #[s_.1]), (83, .agg #[.int .i64 t236, .int .i64 t237, .int .i64 t238]), (84, .tuple #[.agg #[s_.2.1], .bool t242]), (14, .pointer (some ⟨s_.2.2, 0, none⟩)), (79, .tuple #[.agg #[s_.2.1], .bool t242]), (85, .agg #[s_.2.1]), (86, .bool t242)]) (fun s_ w' => (w'.cell? ⟨gb194, 0, none⟩ = some (.slice A0_0 l0_0.length c0_0) ∧ w'.cell? ⟨gb195, 0, none⟩ = some (.int .i64 a1_0) ∧ w'.cell? ⟨gb195, 1, none⟩ = some (.int .i64 a1_1) ∧ w'.cell? ⟨gb195, 2, none⟩ = some (.int .i64 a1_2)) ∧ (Kd.R k25 25 w' w.heap.size (fun k_ => some k_ ≠ (.slice Ao51 t203.length co51 : Value).ownBlock ∧ some k_ ≠ (.slice Ao57 t208.length co57 : Value).ownBlock ∧ some k_ ≠ (.slice Ao68 t215.length co68 : Value).ownBlock ∧ some k_ ≠ (.slice Ao80 t222.length co80 : Value).ownBlock ∧ some k_ ≠ (s_.1 : Value).ownBlock ∧ some k_ ≠ (s_.2.1 : Value).ownBlock) v198 t197) ∧ (Kd.R k25 25 w' w.heap.size (fun k_ => some k_ ≠ (v198 : Value).ownBlock ∧ some k_ ≠ (.slice Ao57 t208.length co57 : Value).ownBlock ∧ some k_ ≠ (.slice Ao68 t215.length co68 : Value).ownBlock ∧ some k_ ≠ (.slice Ao80 t222.length co80 : Value).ownBlock ∧ some k_ ≠ (s_.1 : Value).ownBlock ∧ some k_ ≠ (s_.2.1 : Value).ownBlock) (.slice Ao51 t203.length co51) t203) ∧ (Kd.R k25 25 w' w.heap.size (fun k_ => some k_ ≠ (v198 : Value).ownBlock ∧ some k_ ≠ (.slice Ao51 t203.length co51 : Value).ownBlock ∧ some k_ ≠ (.slice Ao68 t215.length co68 : Value).ownBlock ∧ some k_ ≠ (.slice Ao80 t222.length co80 : Value).ownBlock ∧ some k_ ≠ (s_.1 : Value).ownBlock ∧ some k_ ≠ (s_.2.1 : Value).ownBlock) (.slice Ao57 t208.length co57) t227) ∧ (Kd.R k25 25 w' w.heap.size (fun k_ => some k_ ≠ (v198 : Value).ownBlock ∧ some k_ ≠ (.slice Ao51 t203.length co51 : Value).ownBlock ∧ some k_ ≠ (.slice Ao57 t208.length co57 : Value).ownBlock ∧ some k_ ≠ (.slice Ao80 t222.length co80 : Value).ownBlock ∧ some k_ ≠ (s_.1 : Value).ownBlock ∧ some k_ ≠ (s_.2.1 : Value).ownBlock) (.slice Ao68 t215.length co68) t231) ∧ (Kd.R k25 25 w' w.heap.size (fun k_ => some k_ ≠ (v198 : Value).ownBlock ∧ some k_ ≠ (.slice Ao51 t203.length co51 : Value).ownBlock ∧ some k_ ≠ (.slice Ao57 t208.length co57 : Value).ownBlock ∧ some k_ ≠ (.slice Ao68 t215.length co68 : Value).ownBlock ∧ some k_ ≠ (s_.1 : Value).ownBlock ∧ some k_ ≠ (s_.2.1 : Value).ownBlock) (.slice Ao80 t222.length co80) t222) ∧ (Kd.R k25 25 w' w.heap.size (fun k_ => some k_ ≠ (v198 : Value).ownBlock ∧ some k_ ≠ (.slice Ao51 t203.length co51 : Value).ownBlock ∧ some k_ ≠ (.slice Ao57 t208.length co57 : Value).ownBlock ∧ some k_ ≠ (.slice Ao68 t215.length co68 : Value).ownBlock ∧ some k_ ≠ (.slice Ao80 t222.length co80 : Value).ownBlock ∧ some k_ ≠ (s_.2.1 : Value).ownBlock) s_.1 t233) ∧ (Kd.R k25 25 w' w.heap.size (fun k_ => some k_ ≠ (v198 : Value).ownBlock ∧ some k_ ≠ (.slice Ao51 t203.length co51 : Value).ownBlock ∧ some k_ ≠ (.slice Ao57 t208.length co57 : Value).ownBlock ∧ some k_ ≠ (.slice Ao68 t215.length co68 : Value).ownBlock ∧ some k_ ≠ (.slice Ao80 t222.length co80 : Value).ownBlock ∧ some k_ ≠ (s_.1 : Value).ownBlock) s_.2.1 t239) ∧ (w'.heap[gb194]? = some (.cells #[.slice A0_0 l0_0.length c0_0] 39 (0, 0))) ∧ (w'.heap[gb195]? = some (.cells #[.int .i64 a1_0, .int .i64 a1_1, .int .i64 a1_2] 23 (0, 0))) ∧ (w'.heap[gb207]? = some (.cells #[.slice Ao51 t203.length co51] 44 (0, 0))) ∧ (w'.heap[gb211]? = some (.cells #[.slice Ao57 t208.length co57] 44 (0, 0))) ∧ (w'.heap[gb219]? = some (.cells #[.slice Ao68 t215.length co68] 44 (0, 0))) ∧ (w'.heap[s_.2.2]? = some (.cells #[.slice none 0 0] 44 (0, 0))) ∧ (w.heap.size ≤ s_.2.2) ∧ (w.heap.size ≤ s_.2.2) ∧ (gb194 ≠ s_.2.2) ∧ (s_.2.2 ≠ gb194) ∧ (gb195 ≠ s_.2.2) ∧ (s_.2.2 ≠ gb195) ∧ (gb207 ≠ s_.2.2) ∧ (s_.2.2 ≠ gb207) ∧ (gb211 ≠ s_.2.2) ∧ (s_.2.2 ≠ gb211) ∧ (gb219 ≠ s_.2.2) ∧ (s_.2.2 ≠ gb219) ∧ (Below w.heap.size w w')) ?_ ?_
         rotate_left
         · intro hCont
           refine two_ (i := 1) (j := 8) (Ni := some 81) (Nj := some 14) #[true, true, true, false, false, false, false, false, false, false, false] #[true, false, true, false, false, false, false, false, true, false, false] rfl rfl rfl rfl (two_of HT_.out (by kernel_rfl)) (by decide) (by decide) (fun K hK => ?_) (fun K hK => ?_)
           · skip
             refine goes_ Try.func18 (by kernel_rfl) rfl #[.agg #[.slice A0_0 l0_0.length c0_0]] (by rfl) rfl rfl z5_9_ ?_
             with_reducible refine (laws_toPuzzle.calls k _ _ l0_0 t233 _ ?side1 ?side2 A30.out).mono ?_
             (case side1 => repeat (first | exact (Kd.C_below HR0_0.out HB.out) | (with_reducible refine Kd.C_alloc ?_ _) | (with_reducible refine Kd.C_drewN ?_ _) | (with_reducible refine Kd.C_drew ?_)))
             (case side2 => exact HC0_0.out)
             rintro e w92 ⟨v234, rfl, ho0, hb⟩
             refine ⟨_, rfl, ?_⟩
             have n0_ := Aside0.mk (Kd.R_elder' z5_5_ (Kd.R_base ho0) hb)
             have n1_ := Aside0.mk (Kd.R_elder' z5_10_ (Kd.R_base ho0) hb)
             have n2_ := Aside0.mk (Kd.R_elder' z5_11_ (Kd.R_base ho0) hb)
             have n3_ := Aside0.mk (Kd.R_elder' z5_14_ (Kd.R_base ho0) hb)
             have n4_ := Aside0.mk (Kd.R_elder' z5_15_ (Kd.R_base ho0) hb)
             have n5_ := Aside0.mk (Kd.R_lower (Kd.R_new' (Kd.R_new' (Kd.R_new' (Kd.R_new' (Kd.R_new' ho0 (Kd.R_lt z5_5_)) (Kd.R_lt z5_10_)) (Kd.R_lt z5_11_)) (Kd.R_lt z5_14_)) (Kd.R_lt z5_15_)) (below_size z5_2_))
             have n6_ := Aside0.mk (blk_below (g := gb194) (o := .cells #[.slice A0_0 l0_0.length c0_0] 39 (0, 0)) z5_0_ hb)
             have n7_ := Aside0.mk (blk_below (g := gb195) (o := .cells #[.int .i64 a1_0, .int .i64 a1_1, .int .i64 a1_2] 23 (0, 0)) z5_1_ hb)
             have n8_ := Aside0.mk (blk_below (g := gb207) (o := .cells #[.slice Ao51 t203.length co51] 44 (0, 0)) z5_3_ hb)
             have n9_ := Aside0.mk (blk_below (g := gb211) (o := .cells #[.slice Ao57 t208.length co57] 44 (0, 0)) z5_4_ hb)
             have n10_ := Aside0.mk (blk_below (g := gb219) (o := .cells #[.slice Ao68 t215.length co68] 44 (0, 0)) z5_8_ hb)
             have n11_ := Aside0.mk (below_step z5_2_ hb)
             clear HO199
             clear HO205
             clear HO210
             clear HO217
             clear HO224
             clear BK194
             clear BK195
             clear BK207
             clear BK211
             clear BK219
             clear HB
             have HO199 := n0_
             have HO205 := n1_
             have HO210 := n2_
             have HO217 := n3_
             have HO224 := n4_
             have HO235 := n5_
             have BK194 := n6_
             have BK195 := n7_
             have BK207 := n8_
             have BK211 := n9_
             have BK219 := n10_
             have HB := n11_
             clear n0_ n1_ n2_ n3_ n4_ n5_ n6_ n7_ n8_ n9_ n10_ n11_
             (try clear hb)
             (try clear hb2)
             (try clear hk)
             (try clear hi)
             (try clear ho0)
             refine hK.out _ _ ⟨(blk_cell BK194.out 0).trans rfl, (blk_cell BK195.out 0).trans rfl, (blk_cell BK195.out 1).trans rfl, (blk_cell BK195.out 2).trans rfl⟩ (fun hHeld => ?_)
             clear hK K
             refine norm_ (a' := ?_) ?_ ?_
             rotate_left
             · show Act.put _ (some 81) _ = _
               simp only [Act.put, List.setIfInBounds_toArray, List.set_cons_zero, List.set_cons_succ, i64_w, i32_w]
               rfl
             refine two_ (i := 3) (j := 8) (Ni := some 83) (Nj := some 14) #[true, true, true, true, false, false, false, false, false, false, false] #[true, true, true, false, false, false, false, false, true, false, false] rfl rfl rfl rfl (two_of HT_.out (by kernel_rfl)) (by decide) (by decide) (fun K hK => ?_) (fun K hK => ?_)
             · skip
               refine goes_ Try.func9 (by kernel_rfl) rfl #[.agg #[.int .i64 a1_0, .int .i64 a1_1, .int .i64 a1_2]] (by rfl) rfl rfl z5_9_ ?_
               with_reducible refine (laws_toClue.calls a1_0 a1_1 a1_2 t236 t237 t238 _ A31.out).mono ?_
               rintro e w93 ⟨rfl, hb⟩
               refine ⟨_, rfl, ?_⟩
               have n0_ := Aside0.mk (Kd.R_below z5_5_ hb)
               have n1_ := Aside0.mk (Kd.R_below z5_10_ hb)
               have n2_ := Aside0.mk (Kd.R_below z5_11_ hb)
               have n3_ := Aside0.mk (Kd.R_below z5_14_ hb)
               have n4_ := Aside0.mk (Kd.R_below z5_15_ hb)
               have n5_ := Aside0.mk (Kd.R_below z5_16_ hb)
               have n6_ := Aside0.mk (blk_below (g := gb194) (o := .cells #[.slice A0_0 l0_0.length c0_0] 39 (0, 0)) z5_0_ hb)
               have n7_ := Aside0.mk (blk_below (g := gb195) (o := .cells #[.int .i64 a1_0, .int .i64 a1_1, .int .i64 a1_2] 23 (0, 0)) z5_1_ hb)
               have n8_ := Aside0.mk (blk_below (g := gb207) (o := .cells #[.slice Ao51 t203.length co51] 44 (0, 0)) z5_3_ hb)
               have n9_ := Aside0.mk (blk_below (g := gb211) (o := .cells #[.slice Ao57 t208.length co57] 44 (0, 0)) z5_4_ hb)
               have n10_ := Aside0.mk (blk_below (g := gb219) (o := .cells #[.slice Ao68 t215.length co68] 44 (0, 0)) z5_8_ hb)
               have n11_ := Aside0.mk (below_step z5_2_ hb)
               clear HO199
               clear HO205
               clear HO210
               clear HO217
               clear HO224
               clear HO235
               clear BK194
               clear BK195
               clear BK207
               clear BK211
               clear BK219
               clear HB
               have HO199 := n0_
               have HO205 := n1_
               have HO210 := n2_
               have HO217 := n3_
               have HO224 := n4_
               have HO235 := n5_
               have BK194 := n6_
               have BK195 := n7_
               have BK207 := n8_
               have BK211 := n9_
               have BK219 := n10_
               have HB := n11_
               clear n0_ n1_ n2_ n3_ n4_ n5_ n6_ n7_ n8_ n9_ n10_ n11_
               (try clear hb)
               (try clear hb2)
               (try clear hk)
               (try clear hi)
               obtain ⟨Ao94, co94, eo94⟩ := Kd.R_slice HO235.out
               (first | subst eo94 | (injection eo94 with f1_ f2_ f3_; have f4_ := f1_.symm; have f5_ := f3_.symm; clear f1_ f2_ f3_; subst f4_; subst f5_))
               refine hK.out _ _ ⟨(blk_cell BK194.out 0).trans rfl, (blk_cell BK195.out 0).trans rfl, (blk_cell BK195.out 1).trans rfl, (blk_cell BK195.out 2).trans rfl⟩ (fun hHeld => ?_)
               clear hK K
               refine norm_ (a' := ?_) ?_ ?_
               rotate_left
               · show Act.put _ (some 83) _ = _
                 simp only [Act.put, List.setIfInBounds_toArray, List.set_cons_zero, List.set_cons_succ, i64_w, i32_w]
                 rfl
               refine two_ (i := 4) (j := 8) (Ni := some 84) (Nj := some 14) #[true, true, true, true, true, false, false, false, false, false, false] #[true, true, true, true, false, false, false, false, true, false, false] rfl rfl rfl rfl (two_of HT_.out (by kernel_rfl)) (by decide) (by decide) (fun K hK => ?_) (fun K hK => ?_)
               · skip
                 refine goes_ Try.func22 (by kernel_rfl) rfl #[.agg #[.slice Ao94 t233.length co94], .agg #[.int .i64 t236, .int .i64 t237, .int .i64 t238]] (by rfl) rfl rfl z5_9_ ?_
                 with_reducible refine (impl_AddClue.calls k _ _ t233 t236 t237 t238 t239 t242 _ ?side1 ?side2 A32.out).mono ?_
                 (case side1 => repeat (first | exact (Kd.R_reads' HO235.out).2.2 | (with_reducible refine Kd.C_alloc ?_ _) | (with_reducible refine Kd.C_drewN ?_ _) | (with_reducible refine Kd.C_drew ?_)))
                 (case side2 => exact (Kd.R_reads' HO235.out).2.1)
                 rintro e w95 ⟨v240, rfl, ho0, hb⟩
                 refine ⟨_, rfl, ?_⟩
                 have n0_ := Aside0.mk (Kd.R_elder' z5_5_ (Kd.R_base ho0) hb)
                 have n1_ := Aside0.mk (Kd.R_elder' z5_10_ (Kd.R_base ho0) hb)
                 have n2_ := Aside0.mk (Kd.R_elder' z5_11_ (Kd.R_base ho0) hb)
                 have n3_ := Aside0.mk (Kd.R_elder' z5_14_ (Kd.R_base ho0) hb)
                 have n4_ := Aside0.mk (Kd.R_elder' z5_15_ (Kd.R_base ho0) hb)
                 have n5_ := Aside0.mk (Kd.R_elder' z5_16_ (Kd.R_base ho0) hb)
                 have n6_ := Aside0.mk (Kd.R_lower (Kd.R_new' (Kd.R_new' (Kd.R_new' (Kd.R_new' (Kd.R_new' (Kd.R_new' ho0 (Kd.R_lt z5_5_)) (Kd.R_lt z5_10_)) (Kd.R_lt z5_11_)) (Kd.R_lt z5_14_)) (Kd.R_lt z5_15_)) (Kd.R_lt z5_16_)) (below_size z5_2_))
                 have n7_ := Aside0.mk (blk_below (g := gb194) (o := .cells #[.slice A0_0 l0_0.length c0_0] 39 (0, 0)) z5_0_ hb)
                 have n8_ := Aside0.mk (blk_below (g := gb195) (o := .cells #[.int .i64 a1_0, .int .i64 a1_1, .int .i64 a1_2] 23 (0, 0)) z5_1_ hb)
                 have n9_ := Aside0.mk (blk_below (g := gb207) (o := .cells #[.slice Ao51 t203.length co51] 44 (0, 0)) z5_3_ hb)
                 have n10_ := Aside0.mk (blk_below (g := gb211) (o := .cells #[.slice Ao57 t208.length co57] 44 (0, 0)) z5_4_ hb)
                 have n11_ := Aside0.mk (blk_below (g := gb219) (o := .cells #[.slice Ao68 t215.length co68] 44 (0, 0)) z5_8_ hb)
                 have n12_ := Aside0.mk (below_step z5_2_ hb)
                 clear HO199
                 clear HO205
                 clear HO210
                 clear HO217
                 clear HO224
                 clear HO235
                 clear BK194
                 clear BK195
                 clear BK207
                 clear BK211
                 clear BK219
                 clear HB
                 have HO199 := n0_
                 have HO205 := n1_
                 have HO210 := n2_
                 have HO217 := n3_
                 have HO224 := n4_
                 have HO235 := n5_
                 have HO241 := n6_
                 have BK194 := n7_
                 have BK195 := n8_
                 have BK207 := n9_
                 have BK211 := n10_
                 have BK219 := n11_
                 have HB := n12_
                 clear n0_ n1_ n2_ n3_ n4_ n5_ n6_ n7_ n8_ n9_ n10_ n11_ n12_
                 (try clear hb)
                 (try clear hb2)
                 (try clear hk)
                 (try clear hi)
                 (try clear ho0)
                 refine hK.out _ _ ⟨(blk_cell BK194.out 0).trans rfl, (blk_cell BK195.out 0).trans rfl, (blk_cell BK195.out 1).trans rfl, (blk_cell BK195.out 2).trans rfl⟩ (fun hHeld => ?_)
                 clear hK K
                 refine norm_ (a' := ?_) ?_ ?_
                 rotate_left
                 · show Act.put _ (some 84) _ = _
                   simp only [Act.put, List.setIfInBounds_toArray, List.set_cons_zero, List.set_cons_succ, i64_w, i32_w]
                   rfl
                 refine pure_ (i := 5) (N := some 79) (v := ?_) (a' := ?_) #[true, true, true, true, true, true, false, false, false, false, false] rfl rfl (any_of HT_.out (by kernel_rfl)) (fun _ _ _ h => h) (Or.inl ⟨by rfl, ?_⟩) ?_ ?_
                 rotate_left
                 · intro w'
                   go_simp
                   with_reducible rfl
                 rotate_left
                 · simp only [Act.put, List.setIfInBounds_toArray, List.set_cons_zero, List.set_cons_succ, i64_w, i32_w]
                   rfl
                 refine pure_ (i := 6) (N := some 85) (v := ?_) (a' := ?_) #[true, true, true, true, true, true, true, false, false, false, false] rfl rfl (any_of HT_.out (by kernel_rfl)) (fun _ _ _ h => h) (Or.inl ⟨by rfl, ?_⟩) ?_ ?_
                 rotate_left
                 · intro w'
                   go_simp
                   with_reducible rfl
                 rotate_left
                 · simp only [Act.put, List.setIfInBounds_toArray, List.set_cons_zero, List.set_cons_succ, i64_w, i32_w]
                   rfl
                 refine pure_ (i := 7) (N := some 86) (v := ?_) (a' := ?_) #[true, true, true, true, true, true, true, true, false, false, false] rfl rfl (any_of HT_.out (by kernel_rfl)) (fun _ _ _ h => h) (Or.inl ⟨by rfl, ?_⟩) ?_ ?_
                 rotate_left
                 · intro w'
                   go_simp
                   with_reducible rfl
                 rotate_left
                 · simp only [Act.put, List.setIfInBounds_toArray, List.set_cons_zero, List.set_cons_succ, i64_w, i32_w]
                   rfl
                 refine one_ (i := 8) (N := some 14) #[true, true, true, true, true, true, true, true, true, false, false] rfl rfl (one_of HT_.out (by kernel_rfl)) (by decide) (fun K hK => ?_)
                 refine box_step ?hg (N := 14) ?hd (cs := #[.slice none 0 0]) (t := 44) ?hr ?_; (case hd => rfl); (case hg => rfl); (case hr => first | (go_simp; done) | (go_simp; rfl))
                 intro gb243 hg w96 hbox hb
                 have n0_ := Aside0.mk (Kd.R_below z5_5_ hb)
                 have n1_ := Aside0.mk (Kd.R_below z5_10_ hb)
                 have n2_ := Aside0.mk (Kd.R_below z5_11_ hb)
                 have n3_ := Aside0.mk (Kd.R_below z5_14_ hb)
                 have n4_ := Aside0.mk (Kd.R_below z5_15_ hb)
                 have n5_ := Aside0.mk (Kd.R_below z5_16_ hb)
                 have n6_ := Aside0.mk (Kd.R_below (by (with_reducible repeat (first | apply Kd.R_alloc | apply Kd.R_drewN | apply Kd.R_drew)); exact HO241.out) hb)
                 have n7_ := Aside0.mk (blk_below (g := gb194) (o := .cells #[.slice A0_0 l0_0.length c0_0] 39 (0, 0)) z5_0_ hb)
                 have n8_ := Aside0.mk (blk_below (g := gb195) (o := .cells #[.int .i64 a1_0, .int .i64 a1_1, .int .i64 a1_2] 23 (0, 0)) z5_1_ hb)
                 have n9_ := Aside0.mk (blk_below (g := gb207) (o := .cells #[.slice Ao51 t203.length co51] 44 (0, 0)) z5_3_ hb)
                 have n10_ := Aside0.mk (blk_below (g := gb211) (o := .cells #[.slice Ao57 t208.length co57] 44 (0, 0)) z5_4_ hb)
                 have n11_ := Aside0.mk (blk_below (g := gb219) (o := .cells #[.slice Ao68 t215.length co68] 44 (0, 0)) z5_8_ hb)
                 have n12_ := Aside0.mk (below_step z5_2_ hb)
                 have n13_ := Aside0.mk (hbox)
                 have n14_ := Aside0.mk ((by rw [hg]; exact (below_size z5_2_) : w.heap.size ≤ gb243))
                 have n15_ := Aside0.mk ((by rw [hg]; exact (below_size z5_2_) : w.heap.size ≤ gb243))
                 have n16_ := Aside0.mk ((by rw [hg]; exact Nat.ne_of_lt (blk_lt (g := gb194) (o := .cells #[.slice A0_0 l0_0.length c0_0] 39 (0, 0)) z5_0_) : gb194 ≠ gb243))
                 have n17_ := Aside0.mk ((by rw [hg]; exact Nat.ne_of_gt (blk_lt (g := gb194) (o := .cells #[.slice A0_0 l0_0.length c0_0] 39 (0, 0)) z5_0_) : gb243 ≠ gb194))
                 have n18_ := Aside0.mk ((by rw [hg]; exact Nat.ne_of_lt (blk_lt (g := gb195) (o := .cells #[.int .i64 a1_0, .int .i64 a1_1, .int .i64 a1_2] 23 (0, 0)) z5_1_) : gb195 ≠ gb243))
                 have n19_ := Aside0.mk ((by rw [hg]; exact Nat.ne_of_gt (blk_lt (g := gb195) (o := .cells #[.int .i64 a1_0, .int .i64 a1_1, .int .i64 a1_2] 23 (0, 0)) z5_1_) : gb243 ≠ gb195))
                 have n20_ := Aside0.mk ((by rw [hg]; exact Nat.ne_of_lt (blk_lt (g := gb207) (o := .cells #[.slice Ao51 t203.length co51] 44 (0, 0)) z5_3_) : gb207 ≠ gb243))
                 have n21_ := Aside0.mk ((by rw [hg]; exact Nat.ne_of_gt (blk_lt (g := gb207) (o := .cells #[.slice Ao51 t203.length co51] 44 (0, 0)) z5_3_) : gb243 ≠ gb207))
                 have n22_ := Aside0.mk ((by rw [hg]; exact Nat.ne_of_lt (blk_lt (g := gb211) (o := .cells #[.slice Ao57 t208.length co57] 44 (0, 0)) z5_4_) : gb211 ≠ gb243))
                 have n23_ := Aside0.mk ((by rw [hg]; exact Nat.ne_of_gt (blk_lt (g := gb211) (o := .cells #[.slice Ao57 t208.length co57] 44 (0, 0)) z5_4_) : gb243 ≠ gb211))
                 have n24_ := Aside0.mk ((by rw [hg]; exact Nat.ne_of_lt (blk_lt (g := gb219) (o := .cells #[.slice Ao68 t215.length co68] 44 (0, 0)) z5_8_) : gb219 ≠ gb243))
                 have n25_ := Aside0.mk ((by rw [hg]; exact Nat.ne_of_gt (blk_lt (g := gb219) (o := .cells #[.slice Ao68 t215.length co68] 44 (0, 0)) z5_8_) : gb243 ≠ gb219))
                 clear HO199
                 clear HO205
                 clear HO210
                 clear HO217
                 clear HO224
                 clear HO235
                 clear HO241
                 clear BK194
                 clear BK195
                 clear BK207
                 clear BK211
                 clear BK219
                 clear HB
                 have HO199 := n0_
                 have HO205 := n1_
                 have HO210 := n2_
                 have HO217 := n3_
                 have HO224 := n4_
                 have HO235 := n5_
                 have HO241 := n6_
                 have BK194 := n7_
                 have BK195 := n8_
                 have BK207 := n9_
                 have BK211 := n10_
                 have BK219 := n11_
                 have HB := n12_
                 have BK243 := n13_
                 have GW243 := n14_
                 have GE243 := n15_
                 have NB194_243 := n16_
                 have NB243_194 := n17_
                 have NB195_243 := n18_
                 have NB243_195 := n19_
                 have NB207_243 := n20_
                 have NB243_207 := n21_
                 have NB211_243 := n22_
                 have NB243_211 := n23_
                 have NB219_243 := n24_
                 have NB243_219 := n25_
                 clear n0_ n1_ n2_ n3_ n4_ n5_ n6_ n7_ n8_ n9_ n10_ n11_ n12_ n13_ n14_ n15_ n16_ n17_ n18_ n19_ n20_ n21_ n22_ n23_ n24_ n25_
                 clear hb hbox hg
                 refine hK.out _ _ ⟨(blk_cell BK194.out 0).trans rfl, (blk_cell BK195.out 0).trans rfl, (blk_cell BK195.out 1).trans rfl, (blk_cell BK195.out 2).trans rfl⟩ (fun hHeld => ?_)
                 clear hK K
                 refine norm_ (a' := ?_) ?_ ?_
                 rotate_left
                 · show Act.put _ (some 14) _ = _
                   simp only [Act.put, List.setIfInBounds_toArray, List.set_cons_zero, List.set_cons_succ, i64_w, i32_w]
                   rfl
                 exact norm_ z5_18_ (hCont (.slice Ao94 t233.length co94, v240, gb243) _ ⟨hHeld, z5_22_, z5_23_, z5_24_, z5_25_, z5_26_, z5_20_, z5_21_, z5_0_, z5_1_, z5_3_, z5_4_, z5_8_, z5_17_, GW243.out, GE243.out, NB194_243.out, NB243_194.out, NB195_243.out, NB243_195.out, NB207_243.out, NB243_207.out, NB211_243.out, NB243_211.out, NB219_243.out, NB243_219.out, z5_6_⟩)
               skip
               refine box_step ?hg (N := 14) ?hd (cs := #[.slice none 0 0]) (t := 44) ?hr ?_; (case hd => rfl); (case hg => rfl); (case hr => first | (go_simp; done) | (go_simp; rfl))
               intro gb243 hg w94 hbox hb
               have n0_ := Aside0.mk (Kd.R_below z5_5_ hb)
               have n1_ := Aside0.mk (Kd.R_below z5_10_ hb)
               have n2_ := Aside0.mk (Kd.R_below z5_11_ hb)
               have n3_ := Aside0.mk (Kd.R_below z5_14_ hb)
               have n4_ := Aside0.mk (Kd.R_below z5_15_ hb)
               have n5_ := Aside0.mk (Kd.R_below z5_16_ hb)
               have n6_ := Aside0.mk (blk_below (g := gb194) (o := .cells #[.slice A0_0 l0_0.length c0_0] 39 (0, 0)) z5_0_ hb)
               have n7_ := Aside0.mk (blk_below (g := gb195) (o := .cells #[.int .i64 a1_0, .int .i64 a1_1, .int .i64 a1_2] 23 (0, 0)) z5_1_ hb)
               have n8_ := Aside0.mk (blk_below (g := gb207) (o := .cells #[.slice Ao51 t203.length co51] 44 (0, 0)) z5_3_ hb)
               have n9_ := Aside0.mk (blk_below (g := gb211) (o := .cells #[.slice Ao57 t208.length co57] 44 (0, 0)) z5_4_ hb)
               have n10_ := Aside0.mk (blk_below (g := gb219) (o := .cells #[.slice Ao68 t215.length co68] 44 (0, 0)) z5_8_ hb)
               have n11_ := Aside0.mk (below_step z5_2_ hb)
               have n12_ := Aside0.mk (hbox)
               have n13_ := Aside0.mk ((by rw [hg]; exact (below_size z5_2_) : w.heap.size ≤ gb243))
               have n14_ := Aside0.mk ((by rw [hg]; exact (below_size z5_2_) : w.heap.size ≤ gb243))
               have n15_ := Aside0.mk ((by rw [hg]; exact Nat.ne_of_lt (blk_lt (g := gb194) (o := .cells #[.slice A0_0 l0_0.length c0_0] 39 (0, 0)) z5_0_) : gb194 ≠ gb243))
               have n16_ := Aside0.mk ((by rw [hg]; exact Nat.ne_of_gt (blk_lt (g := gb194) (o := .cells #[.slice A0_0 l0_0.length c0_0] 39 (0, 0)) z5_0_) : gb243 ≠ gb194))
               have n17_ := Aside0.mk ((by rw [hg]; exact Nat.ne_of_lt (blk_lt (g := gb195) (o := .cells #[.int .i64 a1_0, .int .i64 a1_1, .int .i64 a1_2] 23 (0, 0)) z5_1_) : gb195 ≠ gb243))
               have n18_ := Aside0.mk ((by rw [hg]; exact Nat.ne_of_gt (blk_lt (g := gb195) (o := .cells #[.int .i64 a1_0, .int .i64 a1_1, .int .i64 a1_2] 23 (0, 0)) z5_1_) : gb243 ≠ gb195))
               have n19_ := Aside0.mk ((by rw [hg]; exact Nat.ne_of_lt (blk_lt (g := gb207) (o := .cells #[.slice Ao51 t203.length co51] 44 (0, 0)) z5_3_) : gb207 ≠ gb243))
               have n20_ := Aside0.mk ((by rw [hg]; exact Nat.ne_of_gt (blk_lt (g := gb207) (o := .cells #[.slice Ao51 t203.length co51] 44 (0, 0)) z5_3_) : gb243 ≠ gb207))
               have n21_ := Aside0.mk ((by rw [hg]; exact Nat.ne_of_lt (blk_lt (g := gb211) (o := .cells #[.slice Ao57 t208.length co57] 44 (0, 0)) z5_4_) : gb211 ≠ gb243))
               have n22_ := Aside0.mk ((by rw [hg]; exact Nat.ne_of_gt (blk_lt (g := gb211) (o := .cells #[.slice Ao57 t208.length co57] 44 (0, 0)) z5_4_) : gb243 ≠ gb211))
               have n23_ := Aside0.mk ((by rw [hg]; exact Nat.ne_of_lt (blk_lt (g := gb219) (o := .cells #[.slice Ao68 t215.length co68] 44 (0, 0)) z5_8_) : gb219 ≠ gb243))
               have n24_ := Aside0.mk ((by rw [hg]; exact Nat.ne_of_gt (blk_lt (g := gb219) (o := .cells #[.slice Ao68 t215.length co68] 44 (0, 0)) z5_8_) : gb243 ≠ gb219))
               clear HO199
               clear HO205
               clear HO210
               clear HO217
               clear HO224
               clear HO235
               clear BK194
               clear BK195
               clear BK207
               clear BK211
               clear BK219
               clear HB
               have HO199 := n0_
               have HO205 := n1_
               have HO210 := n2_
               have HO217 := n3_
               have HO224 := n4_
               have HO235 := n5_
               have BK194 := n6_
               have BK195 := n7_
               have BK207 := n8_
               have BK211 := n9_
               have BK219 := n10_
               have HB := n11_
               have BK243 := n12_
               have GW243 := n13_
               have GE243 := n14_
               have NB194_243 := n15_
               have NB243_194 := n16_
               have NB195_243 := n17_
               have NB243_195 := n18_
               have NB207_243 := n19_
               have NB243_207 := n20_
               have NB211_243 := n21_
               have NB243_211 := n22_
               have NB219_243 := n23_
               have NB243_219 := n24_
               clear n0_ n1_ n2_ n3_ n4_ n5_ n6_ n7_ n8_ n9_ n10_ n11_ n12_ n13_ n14_ n15_ n16_ n17_ n18_ n19_ n20_ n21_ n22_ n23_ n24_
               clear hb hbox hg
               obtain ⟨Ao95, co95, eo95⟩ := Kd.R_slice HO235.out
               (first | subst eo95 | (injection eo95 with f1_ f2_ f3_; have f4_ := f1_.symm; have f5_ := f3_.symm; clear f1_ f2_ f3_; subst f4_; subst f5_))
               refine hK.out _ _ ⟨(blk_cell BK194.out 0).trans rfl, (blk_cell BK195.out 0).trans rfl, (blk_cell BK195.out 1).trans rfl, (blk_cell BK195.out 2).trans rfl⟩ (fun hHeld => ?_)
               clear hK K
               refine norm_ (a' := ?_) ?_ ?_
               rotate_left
               · show Act.put _ (some 14) _ = _
                 simp only [Act.put, List.setIfInBounds_toArray, List.set_cons_zero, List.set_cons_succ, i64_w, i32_w]
                 rfl
               refine one_ (i := 4) (N := some 84) #[true, true, true, true, true, false, false, false, true, false, false] rfl rfl (one_of HT_.out (by kernel_rfl)) (by decide) (fun K hK => ?_)
               refine goes_ Try.func22 (by kernel_rfl) rfl #[.agg #[.slice Ao95 t233.length co95], .agg #[.int .i64 t236, .int .i64 t237, .int .i64 t238]] (by rfl) rfl rfl z5_9_ ?_
               with_reducible refine (impl_AddClue.calls k _ _ t233 t236 t237 t238 t239 t242 _ ?side1 ?side2 A32.out).mono ?_
               (case side1 => repeat (first | exact (Kd.R_reads' HO235.out).2.2 | (with_reducible refine Kd.C_alloc ?_ _) | (with_reducible refine Kd.C_drewN ?_ _) | (with_reducible refine Kd.C_drew ?_)))
               (case side2 => exact (Kd.R_reads' HO235.out).2.1)
               rintro e w96 ⟨v240, rfl, ho0, hb⟩
               refine ⟨_, rfl, ?_⟩
               have n0_ := Aside0.mk (Kd.R_elder' z5_5_ (Kd.R_base ho0) hb)
               have n1_ := Aside0.mk (Kd.R_elder' z5_10_ (Kd.R_base ho0) hb)
               have n2_ := Aside0.mk (Kd.R_elder' z5_11_ (Kd.R_base ho0) hb)
               have n3_ := Aside0.mk (Kd.R_elder' z5_14_ (Kd.R_base ho0) hb)
               have n4_ := Aside0.mk (Kd.R_elder' z5_15_ (Kd.R_base ho0) hb)
               have n5_ := Aside0.mk (Kd.R_elder' z5_16_ (Kd.R_base ho0) hb)
               have n6_ := Aside0.mk (Kd.R_lower (Kd.R_new' (Kd.R_new' (Kd.R_new' (Kd.R_new' (Kd.R_new' (Kd.R_new' ho0 (Kd.R_lt z5_5_)) (Kd.R_lt z5_10_)) (Kd.R_lt z5_11_)) (Kd.R_lt z5_14_)) (Kd.R_lt z5_15_)) (Kd.R_lt z5_16_)) (below_size z5_6_))
               have n7_ := Aside0.mk (blk_below (g := gb194) (o := .cells #[.slice A0_0 l0_0.length c0_0] 39 (0, 0)) z5_0_ hb)
               have n8_ := Aside0.mk (blk_below (g := gb195) (o := .cells #[.int .i64 a1_0, .int .i64 a1_1, .int .i64 a1_2] 23 (0, 0)) z5_1_ hb)
               have n9_ := Aside0.mk (blk_below (g := gb207) (o := .cells #[.slice Ao51 t203.length co51] 44 (0, 0)) z5_3_ hb)
               have n10_ := Aside0.mk (blk_below (g := gb211) (o := .cells #[.slice Ao57 t208.length co57] 44 (0, 0)) z5_4_ hb)
               have n11_ := Aside0.mk (blk_below (g := gb219) (o := .cells #[.slice Ao68 t215.length co68] 44 (0, 0)) z5_8_ hb)
               have n12_ := Aside0.mk (blk_below (g := gb243) (o := .cells #[.slice none 0 0] 44 (0, 0)) z5_17_ hb)
               have n13_ := Aside0.mk (below_step z5_6_ hb)
               clear HO199
               clear HO205
               clear HO210
               clear HO217
               clear HO224
               clear HO235
               clear BK194
               clear BK195
               clear BK207
               clear BK211
               clear BK219
               clear BK243
               clear HB
               have HO199 := n0_
               have HO205 := n1_
               have HO210 := n2_
               have HO217 := n3_
               have HO224 := n4_
               have HO235 := n5_
               have HO241 := n6_
               have BK194 := n7_
               have BK195 := n8_
               have BK207 := n9_
               have BK211 := n10_
               have BK219 := n11_
               have BK243 := n12_
               have HB := n13_
               clear n0_ n1_ n2_ n3_ n4_ n5_ n6_ n7_ n8_ n9_ n10_ n11_ n12_ n13_
               (try clear hb)
               (try clear hb2)
               (try clear hk)
               (try clear hi)
               (try clear ho0)
               refine hK.out _ _ ⟨(blk_cell BK194.out 0).trans rfl, (blk_cell BK195.out 0).trans rfl, (blk_cell BK195.out 1).trans rfl, (blk_cell BK195.out 2).trans rfl⟩ (fun hHeld => ?_)
               clear hK K
               refine norm_ (a' := ?_) ?_ ?_
               rotate_left
               · show Act.put _ (some 84) _ = _
                 simp only [Act.put, List.setIfInBounds_toArray, List.set_cons_zero, List.set_cons_succ, i64_w, i32_w]
                 rfl
               refine pure_ (i := 5) (N := some 79) (v := ?_) (a' := ?_) #[true, true, true, true, true, true, false, false, true, false, false] rfl rfl (any_of HT_.out (by kernel_rfl)) (fun _ _ _ h => h) (Or.inl ⟨by rfl, ?_⟩) ?_ ?_
               rotate_left
               · intro w'
                 go_simp
                 with_reducible rfl
               rotate_left
               · simp only [Act.put, List.setIfInBounds_toArray, List.set_cons_zero, List.set_cons_succ, i64_w, i32_w]
                 rfl
               refine pure_ (i := 6) (N := some 85) (v := ?_) (a' := ?_) #[true, true, true, true, true, true, true, false, true, false, false] rfl rfl (any_of HT_.out (by kernel_rfl)) (fun _ _ _ h => h) (Or.inl ⟨by rfl, ?_⟩) ?_ ?_
               rotate_left
               · intro w'
                 go_simp
                 with_reducible rfl
               rotate_left
               · simp only [Act.put, List.setIfInBounds_toArray, List.set_cons_zero, List.set_cons_succ, i64_w, i32_w]
                 rfl
               refine pure_ (i := 7) (N := some 86) (v := ?_) (a' := ?_) #[true, true, true, true, true, true, true, true, true, false, false] rfl rfl (any_of HT_.out (by kernel_rfl)) (fun _ _ _ h => h) (Or.inl ⟨by rfl, ?_⟩) ?_ ?_
               rotate_left
               · intro w'
                 go_simp
                 with_reducible rfl
               rotate_left
               · simp only [Act.put, List.setIfInBounds_toArray, List.set_cons_zero, List.set_cons_succ, i64_w, i32_w]
                 rfl
               exact norm_ z5_18_ (hCont (.slice Ao95 t233.length co95, v240, gb243) _ ⟨hHeld, z5_22_, z5_23_, z5_24_, z5_25_, z5_26_, z5_20_, z5_21_, z5_0_, z5_1_, z5_3_, z5_4_, z5_8_, z5_17_, GW243.out, GE243.out, NB194_243.out, NB243_194.out, NB195_243.out, NB243_195.out, NB207_243.out, NB243_207.out, NB211_243.out, NB243_211.out, NB219_243.out, NB243_219.out, z5_6_⟩)
             skip
             refine box_step ?hg (N := 14) ?hd (cs := #[.slice none 0 0]) (t := 44) ?hr ?_; (case hd => rfl); (case hg => rfl); (case hr => first | (go_simp; done) | (go_simp; rfl))
             intro gb243 hg w93 hbox hb
             have n0_ := Aside0.mk (Kd.R_below z5_5_ hb)
             have n1_ := Aside0.mk (Kd.R_below z5_10_ hb)
             have n2_ := Aside0.mk (Kd.R_below z5_11_ hb)
             have n3_ := Aside0.mk (Kd.R_below z5_14_ hb)
             have n4_ := Aside0.mk (Kd.R_below z5_15_ hb)
             have n5_ := Aside0.mk (Kd.R_below z5_16_ hb)
             have n6_ := Aside0.mk (blk_below (g := gb194) (o := .cells #[.slice A0_0 l0_0.length c0_0] 39 (0, 0)) z5_0_ hb)
             have n7_ := Aside0.mk (blk_below (g := gb195) (o := .cells #[.int .i64 a1_0, .int .i64 a1_1, .int .i64 a1_2] 23 (0, 0)) z5_1_ hb)
             have n8_ := Aside0.mk (blk_below (g := gb207) (o := .cells #[.slice Ao51 t203.length co51] 44 (0, 0)) z5_3_ hb)
             have n9_ := Aside0.mk (blk_below (g := gb211) (o := .cells #[.slice Ao57 t208.length co57] 44 (0, 0)) z5_4_ hb)
             have n10_ := Aside0.mk (blk_below (g := gb219) (o := .cells #[.slice Ao68 t215.length co68] 44 (0, 0)) z5_8_ hb)
             have n11_ := Aside0.mk (below_step z5_2_ hb)
             have n12_ := Aside0.mk (hbox)
             have n13_ := Aside0.mk ((by rw [hg]; exact (below_size z5_2_) : w.heap.size ≤ gb243))
             have n14_ := Aside0.mk ((by rw [hg]; exact (below_size z5_2_) : w.heap.size ≤ gb243))
             have n15_ := Aside0.mk ((by rw [hg]; exact Nat.ne_of_lt (blk_lt (g := gb194) (o := .cells #[.slice A0_0 l0_0.length c0_0] 39 (0, 0)) z5_0_) : gb194 ≠ gb243))
             have n16_ := Aside0.mk ((by rw [hg]; exact Nat.ne_of_gt (blk_lt (g := gb194) (o := .cells #[.slice A0_0 l0_0.length c0_0] 39 (0, 0)) z5_0_) : gb243 ≠ gb194))
             have n17_ := Aside0.mk ((by rw [hg]; exact Nat.ne_of_lt (blk_lt (g := gb195) (o := .cells #[.int .i64 a1_0, .int .i64 a1_1, .int .i64 a1_2] 23 (0, 0)) z5_1_) : gb195 ≠ gb243))
             have n18_ := Aside0.mk ((by rw [hg]; exact Nat.ne_of_gt (blk_lt (g := gb195) (o := .cells #[.int .i64 a1_0, .int .i64 a1_1, .int .i64 a1_2] 23 (0, 0)) z5_1_) : gb243 ≠ gb195))
             have n19_ := Aside0.mk ((by rw [hg]; exact Nat.ne_of_lt (blk_lt (g := gb207) (o := .cells #[.slice Ao51 t203.length co51] 44 (0, 0)) z5_3_) : gb207 ≠ gb243))
             have n20_ := Aside0.mk ((by rw [hg]; exact Nat.ne_of_gt (blk_lt (g := gb207) (o := .cells #[.slice Ao51 t203.length co51] 44 (0, 0)) z5_3_) : gb243 ≠ gb207))
             have n21_ := Aside0.mk ((by rw [hg]; exact Nat.ne_of_lt (blk_lt (g := gb211) (o := .cells #[.slice Ao57 t208.length co57] 44 (0, 0)) z5_4_) : gb211 ≠ gb243))
             have n22_ := Aside0.mk ((by rw [hg]; exact Nat.ne_of_gt (blk_lt (g := gb211) (o := .cells #[.slice Ao57 t208.length co57] 44 (0, 0)) z5_4_) : gb243 ≠ gb211))
             have n23_ := Aside0.mk ((by rw [hg]; exact Nat.ne_of_lt (blk_lt (g := gb219) (o := .cells #[.slice Ao68 t215.length co68] 44 (0, 0)) z5_8_) : gb219 ≠ gb243))
             have n24_ := Aside0.mk ((by rw [hg]; exact Nat.ne_of_gt (blk_lt (g := gb219) (o := .cells #[.slice Ao68 t215.length co68] 44 (0, 0)) z5_8_) : gb243 ≠ gb219))
             clear HO199
             clear HO205
             clear HO210
             clear HO217
             clear HO224
             clear HO235
             clear BK194
             clear BK195
             clear BK207
             clear BK211
             clear BK219
             clear HB
             have HO199 := n0_
             have HO205 := n1_
             have HO210 := n2_
             have HO217 := n3_
             have HO224 := n4_
             have HO235 := n5_
             have BK194 := n6_
             have BK195 := n7_
             have BK207 := n8_
             have BK211 := n9_
             have BK219 := n10_
             have HB := n11_
             have BK243 := n12_
             have GW243 := n13_
             have GE243 := n14_
             have NB194_243 := n15_
             have NB243_194 := n16_
             have NB195_243 := n17_
             have NB243_195 := n18_
             have NB207_243 := n19_
             have NB243_207 := n20_
             have NB211_243 := n21_
             have NB243_211 := n22_
             have NB219_243 := n23_
             have NB243_219 := n24_
             clear n0_ n1_ n2_ n3_ n4_ n5_ n6_ n7_ n8_ n9_ n10_ n11_ n12_ n13_ n14_ n15_ n16_ n17_ n18_ n19_ n20_ n21_ n22_ n23_ n24_
             clear hb hbox hg
             refine hK.out _ _ ⟨(blk_cell BK194.out 0).trans rfl, (blk_cell BK195.out 0).trans rfl, (blk_cell BK195.out 1).trans rfl, (blk_cell BK195.out 2).trans rfl⟩ (fun hHeld => ?_)
             clear hK K
             refine norm_ (a' := ?_) ?_ ?_
             rotate_left
             · show Act.put _ (some 14) _ = _
               simp only [Act.put, List.setIfInBounds_toArray, List.set_cons_zero, List.set_cons_succ, i64_w, i32_w]
               rfl
             refine one_ (i := 3) (N := some 83) #[true, true, true, true, false, false, false, false, true, false, false] rfl rfl (one_of HT_.out (by kernel_rfl)) (by decide) (fun K hK => ?_)
             refine goes_ Try.func9 (by kernel_rfl) rfl #[.agg #[.int .i64 a1_0, .int .i64 a1_1, .int .i64 a1_2]] (by rfl) rfl rfl z5_9_ ?_
             with_reducible refine (laws_toClue.calls a1_0 a1_1 a1_2 t236 t237 t238 _ A31.out).mono ?_
             rintro e w94 ⟨rfl, hb⟩
             refine ⟨_, rfl, ?_⟩
             have n0_ := Aside0.mk (Kd.R_below z5_5_ hb)
             have n1_ := Aside0.mk (Kd.R_below z5_10_ hb)
             have n2_ := Aside0.mk (Kd.R_below z5_11_ hb)
             have n3_ := Aside0.mk (Kd.R_below z5_14_ hb)
             have n4_ := Aside0.mk (Kd.R_below z5_15_ hb)
             have n5_ := Aside0.mk (Kd.R_below z5_16_ hb)
             have n6_ := Aside0.mk (blk_below (g := gb194) (o := .cells #[.slice A0_0 l0_0.length c0_0] 39 (0, 0)) z5_0_ hb)
             have n7_ := Aside0.mk (blk_below (g := gb195) (o := .cells #[.int .i64 a1_0, .int .i64 a1_1, .int .i64 a1_2] 23 (0, 0)) z5_1_ hb)
             have n8_ := Aside0.mk (blk_below (g := gb207) (o := .cells #[.slice Ao51 t203.length co51] 44 (0, 0)) z5_3_ hb)
             have n9_ := Aside0.mk (blk_below (g := gb211) (o := .cells #[.slice Ao57 t208.length co57] 44 (0, 0)) z5_4_ hb)
             have n10_ := Aside0.mk (blk_below (g := gb219) (o := .cells #[.slice Ao68 t215.length co68] 44 (0, 0)) z5_8_ hb)
             have n11_ := Aside0.mk (blk_below (g := gb243) (o := .cells #[.slice none 0 0] 44 (0, 0)) z5_17_ hb)
             have n12_ := Aside0.mk (below_step z5_6_ hb)
             clear HO199
             clear HO205
             clear HO210
             clear HO217
             clear HO224
             clear HO235
             clear BK194
             clear BK195
             clear BK207
             clear BK211
             clear BK219
             clear BK243
             clear HB
             have HO199 := n0_
             have HO205 := n1_
             have HO210 := n2_
             have HO217 := n3_
             have HO224 := n4_
             have HO235 := n5_
             have BK194 := n6_
             have BK195 := n7_
             have BK207 := n8_
             have BK211 := n9_
             have BK219 := n10_
             have BK243 := n11_
             have HB := n12_
             clear n0_ n1_ n2_ n3_ n4_ n5_ n6_ n7_ n8_ n9_ n10_ n11_ n12_
             (try clear hb)
             (try clear hb2)
             (try clear hk)
             (try clear hi)
             obtain ⟨Ao95, co95, eo95⟩ := Kd.R_slice HO235.out
             (first | subst eo95 | (injection eo95 with f1_ f2_ f3_; have f4_ := f1_.symm; have f5_ := f3_.symm; clear f1_ f2_ f3_; subst f4_; subst f5_))
             refine hK.out _ _ ⟨(blk_cell BK194.out 0).trans rfl, (blk_cell BK195.out 0).trans rfl, (blk_cell BK195.out 1).trans rfl, (blk_cell BK195.out 2).trans rfl⟩ (fun hHeld => ?_)
             clear hK K
             refine norm_ (a' := ?_) ?_ ?_
             rotate_left
             · show Act.put _ (some 83) _ = _
               simp only [Act.put, List.setIfInBounds_toArray, List.set_cons_zero, List.set_cons_succ, i64_w, i32_w]
               rfl
             refine one_ (i := 4) (N := some 84) #[true, true, true, true, true, false, false, false, true, false, false] rfl rfl (one_of HT_.out (by kernel_rfl)) (by decide) (fun K hK => ?_)
             refine goes_ Try.func22 (by kernel_rfl) rfl #[.agg #[.slice Ao95 t233.length co95], .agg #[.int .i64 t236, .int .i64 t237, .int .i64 t238]] (by rfl) rfl rfl z5_9_ ?_
             with_reducible refine (impl_AddClue.calls k _ _ t233 t236 t237 t238 t239 t242 _ ?side1 ?side2 A32.out).mono ?_
             (case side1 => repeat (first | exact (Kd.R_reads' HO235.out).2.2 | (with_reducible refine Kd.C_alloc ?_ _) | (with_reducible refine Kd.C_drewN ?_ _) | (with_reducible refine Kd.C_drew ?_)))
             (case side2 => exact (Kd.R_reads' HO235.out).2.1)
             rintro e w96 ⟨v240, rfl, ho0, hb⟩
             refine ⟨_, rfl, ?_⟩
             have n0_ := Aside0.mk (Kd.R_elder' z5_5_ (Kd.R_base ho0) hb)
             have n1_ := Aside0.mk (Kd.R_elder' z5_10_ (Kd.R_base ho0) hb)
             have n2_ := Aside0.mk (Kd.R_elder' z5_11_ (Kd.R_base ho0) hb)
             have n3_ := Aside0.mk (Kd.R_elder' z5_14_ (Kd.R_base ho0) hb)
             have n4_ := Aside0.mk (Kd.R_elder' z5_15_ (Kd.R_base ho0) hb)
             have n5_ := Aside0.mk (Kd.R_elder' z5_16_ (Kd.R_base ho0) hb)
             have n6_ := Aside0.mk (Kd.R_lower (Kd.R_new' (Kd.R_new' (Kd.R_new' (Kd.R_new' (Kd.R_new' (Kd.R_new' ho0 (Kd.R_lt z5_5_)) (Kd.R_lt z5_10_)) (Kd.R_lt z5_11_)) (Kd.R_lt z5_14_)) (Kd.R_lt z5_15_)) (Kd.R_lt z5_16_)) (below_size z5_6_))
             have n7_ := Aside0.mk (blk_below (g := gb194) (o := .cells #[.slice A0_0 l0_0.length c0_0] 39 (0, 0)) z5_0_ hb)
             have n8_ := Aside0.mk (blk_below (g := gb195) (o := .cells #[.int .i64 a1_0, .int .i64 a1_1, .int .i64 a1_2] 23 (0, 0)) z5_1_ hb)
             have n9_ := Aside0.mk (blk_below (g := gb207) (o := .cells #[.slice Ao51 t203.length co51] 44 (0, 0)) z5_3_ hb)
             have n10_ := Aside0.mk (blk_below (g := gb211) (o := .cells #[.slice Ao57 t208.length co57] 44 (0, 0)) z5_4_ hb)
             have n11_ := Aside0.mk (blk_below (g := gb219) (o := .cells #[.slice Ao68 t215.length co68] 44 (0, 0)) z5_8_ hb)
             have n12_ := Aside0.mk (blk_below (g := gb243) (o := .cells #[.slice none 0 0] 44 (0, 0)) z5_17_ hb)
             have n13_ := Aside0.mk (below_step z5_6_ hb)
             clear HO199
             clear HO205
             clear HO210
             clear HO217
             clear HO224
             clear HO235
             clear BK194
             clear BK195
             clear BK207
             clear BK211
             clear BK219
             clear BK243
             clear HB
             have HO199 := n0_
             have HO205 := n1_
             have HO210 := n2_
             have HO217 := n3_
             have HO224 := n4_
             have HO235 := n5_
             have HO241 := n6_
             have BK194 := n7_
             have BK195 := n8_
             have BK207 := n9_
             have BK211 := n10_
             have BK219 := n11_
             have BK243 := n12_
             have HB := n13_
             clear n0_ n1_ n2_ n3_ n4_ n5_ n6_ n7_ n8_ n9_ n10_ n11_ n12_ n13_
             (try clear hb)
             (try clear hb2)
             (try clear hk)
             (try clear hi)
             (try clear ho0)
             refine hK.out _ _ ⟨(blk_cell BK194.out 0).trans rfl, (blk_cell BK195.out 0).trans rfl, (blk_cell BK195.out 1).trans rfl, (blk_cell BK195.out 2).trans rfl⟩ (fun hHeld => ?_)
             clear hK K
             refine norm_ (a' := ?_) ?_ ?_
             rotate_left
             · show Act.put _ (some 84) _ = _
               simp only [Act.put, List.setIfInBounds_toArray, List.set_cons_zero, List.set_cons_succ, i64_w, i32_w]
               rfl
             refine pure_ (i := 5) (N := some 79) (v := ?_) (a' := ?_) #[true, true, true, true, true, true, false, false, true, false, false] rfl rfl (any_of HT_.out (by kernel_rfl)) (fun _ _ _ h => h) (Or.inl ⟨by rfl, ?_⟩) ?_ ?_
             rotate_left
             · intro w'
               go_simp
               with_reducible rfl
             rotate_left
             · simp only [Act.put, List.setIfInBounds_toArray, List.set_cons_zero, List.set_cons_succ, i64_w, i32_w]
               rfl
             refine pure_ (i := 6) (N := some 85) (v := ?_) (a' := ?_) #[true, true, true, true, true, true, true, false, true, false, false] rfl rfl (any_of HT_.out (by kernel_rfl)) (fun _ _ _ h => h) (Or.inl ⟨by rfl, ?_⟩) ?_ ?_
             rotate_left
             · intro w'
               go_simp
               with_reducible rfl
             rotate_left
             · simp only [Act.put, List.setIfInBounds_toArray, List.set_cons_zero, List.set_cons_succ, i64_w, i32_w]
               rfl
             refine pure_ (i := 7) (N := some 86) (v := ?_) (a' := ?_) #[true, true, true, true, true, true, true, true, true, false, false] rfl rfl (any_of HT_.out (by kernel_rfl)) (fun _ _ _ h => h) (Or.inl ⟨by rfl, ?_⟩) ?_ ?_
             rotate_left
             · intro w'
               go_simp
               with_reducible rfl
             rotate_left
             · simp only [Act.put, List.setIfInBounds_toArray, List.set_cons_zero, List.set_cons_succ, i64_w, i32_w]
               rfl
             exact norm_ z5_18_ (hCont (.slice Ao95 t233.length co95, v240, gb243) _ ⟨hHeld, z5_22_, z5_23_, z5_24_, z5_25_, z5_26_, z5_20_, z5_21_, z5_0_, z5_1_, z5_3_, z5_4_, z5_8_, z5_17_, GW243.out, GE243.out, NB194_243.out, NB243_194.out, NB195_243.out, NB243_195.out, NB207_243.out, NB243_207.out, NB211_243.out, NB243_211.out, NB219_243.out, NB243_219.out, z5_6_⟩)
           skip
           refine box_step ?hg (N := 14) ?hd (cs := #[.slice none 0 0]) (t := 44) ?hr ?_; (case hd => rfl); (case hg => rfl); (case hr => first | (go_simp; done) | (go_simp; rfl))
           intro gb243 hg w92 hbox hb
           have n0_ := Aside0.mk (Kd.R_below z5_5_ hb)
           have n1_ := Aside0.mk (Kd.R_below z5_10_ hb)
           have n2_ := Aside0.mk (Kd.R_below z5_11_ hb)
           have n3_ := Aside0.mk (Kd.R_below z5_14_ hb)
           have n4_ := Aside0.mk (Kd.R_below z5_15_ hb)
           have n5_ := Aside0.mk (blk_below (g := gb194) (o := .cells #[.slice A0_0 l0_0.length c0_0] 39 (0, 0)) z5_0_ hb)
           have n6_ := Aside0.mk (blk_below (g := gb195) (o := .cells #[.int .i64 a1_0, .int .i64 a1_1, .int .i64 a1_2] 23 (0, 0)) z5_1_ hb)
           have n7_ := Aside0.mk (blk_below (g := gb207) (o := .cells #[.slice Ao51 t203.length co51] 44 (0, 0)) z5_3_ hb)
           have n8_ := Aside0.mk (blk_below (g := gb211) (o := .cells #[.slice Ao57 t208.length co57] 44 (0, 0)) z5_4_ hb)
           have n9_ := Aside0.mk (blk_below (g := gb219) (o := .cells #[.slice Ao68 t215.length co68] 44 (0, 0)) z5_8_ hb)
           have n10_ := Aside0.mk (below_step z5_2_ hb)
           have n11_ := Aside0.mk (hbox)
           have n12_ := Aside0.mk ((by rw [hg]; exact (below_size z5_2_) : w.heap.size ≤ gb243))
           have n13_ := Aside0.mk ((by rw [hg]; exact (below_size z5_2_) : w.heap.size ≤ gb243))
           have n14_ := Aside0.mk ((by rw [hg]; exact Nat.ne_of_lt (blk_lt (g := gb194) (o := .cells #[.slice A0_0 l0_0.length c0_0] 39 (0, 0)) z5_0_) : gb194 ≠ gb243))
           have n15_ := Aside0.mk ((by rw [hg]; exact Nat.ne_of_gt (blk_lt (g := gb194) (o := .cells #[.slice A0_0 l0_0.length c0_0] 39 (0, 0)) z5_0_) : gb243 ≠ gb194))
           have n16_ := Aside0.mk ((by rw [hg]; exact Nat.ne_of_lt (blk_lt (g := gb195) (o := .cells #[.int .i64 a1_0, .int .i64 a1_1, .int .i64 a1_2] 23 (0, 0)) z5_1_) : gb195 ≠ gb243))
           have n17_ := Aside0.mk ((by rw [hg]; exact Nat.ne_of_gt (blk_lt (g := gb195) (o := .cells #[.int .i64 a1_0, .int .i64 a1_1, .int .i64 a1_2] 23 (0, 0)) z5_1_) : gb243 ≠ gb195))
           have n18_ := Aside0.mk ((by rw [hg]; exact Nat.ne_of_lt (blk_lt (g := gb207) (o := .cells #[.slice Ao51 t203.length co51] 44 (0, 0)) z5_3_) : gb207 ≠ gb243))
           have n19_ := Aside0.mk ((by rw [hg]; exact Nat.ne_of_gt (blk_lt (g := gb207) (o := .cells #[.slice Ao51 t203.length co51] 44 (0, 0)) z5_3_) : gb243 ≠ gb207))
           have n20_ := Aside0.mk ((by rw [hg]; exact Nat.ne_of_lt (blk_lt (g := gb211) (o := .cells #[.slice Ao57 t208.length co57] 44 (0, 0)) z5_4_) : gb211 ≠ gb243))
           have n21_ := Aside0.mk ((by rw [hg]; exact Nat.ne_of_gt (blk_lt (g := gb211) (o := .cells #[.slice Ao57 t208.length co57] 44 (0, 0)) z5_4_) : gb243 ≠ gb211))
           have n22_ := Aside0.mk ((by rw [hg]; exact Nat.ne_of_lt (blk_lt (g := gb219) (o := .cells #[.slice Ao68 t215.length co68] 44 (0, 0)) z5_8_) : gb219 ≠ gb243))
           have n23_ := Aside0.mk ((by rw [hg]; exact Nat.ne_of_gt (blk_lt (g := gb219) (o := .cells #[.slice Ao68 t215.length co68] 44 (0, 0)) z5_8_) : gb243 ≠ gb219))
           clear HO199
           clear HO205
           clear HO210
           clear HO217
           clear HO224
           clear BK194
           clear BK195
           clear BK207
           clear BK211
           clear BK219
           clear HB
           have HO199 := n0_
           have HO205 := n1_
           have HO210 := n2_
           have HO217 := n3_
           have HO224 := n4_
           have BK194 := n5_
           have BK195 := n6_
           have BK207 := n7_
           have BK211 := n8_
           have BK219 := n9_
           have HB := n10_
           have BK243 := n11_
           have GW243 := n12_
           have GE243 := n13_
           have NB194_243 := n14_
           have NB243_194 := n15_
           have NB195_243 := n16_
           have NB243_195 := n17_
           have NB207_243 := n18_
           have NB243_207 := n19_
           have NB211_243 := n20_
           have NB243_211 := n21_
           have NB219_243 := n22_
           have NB243_219 := n23_
           clear n0_ n1_ n2_ n3_ n4_ n5_ n6_ n7_ n8_ n9_ n10_ n11_ n12_ n13_ n14_ n15_ n16_ n17_ n18_ n19_ n20_ n21_ n22_ n23_
           clear hb hbox hg
           refine hK.out _ _ ⟨(blk_cell BK194.out 0).trans rfl, (blk_cell BK195.out 0).trans rfl, (blk_cell BK195.out 1).trans rfl, (blk_cell BK195.out 2).trans rfl⟩ (fun hHeld => ?_)
           clear hK K
           refine norm_ (a' := ?_) ?_ ?_
           rotate_left
           · show Act.put _ (some 14) _ = _
             simp only [Act.put, List.setIfInBounds_toArray, List.set_cons_zero, List.set_cons_succ, i64_w, i32_w]
             rfl
           refine one_ (i := 1) (N := some 81) #[true, true, true, false, false, false, false, false, true, false, false] rfl rfl (one_of HT_.out (by kernel_rfl)) (by decide) (fun K hK => ?_)
           refine goes_ Try.func18 (by kernel_rfl) rfl #[.agg #[.slice A0_0 l0_0.length c0_0]] (by rfl) rfl rfl z5_9_ ?_
           with_reducible refine (laws_toPuzzle.calls k _ _ l0_0 t233 _ ?side1 ?side2 A30.out).mono ?_
           (case side1 => repeat (first | exact (Kd.C_below HR0_0.out HB.out) | (with_reducible refine Kd.C_alloc ?_ _) | (with_reducible refine Kd.C_drewN ?_ _) | (with_reducible refine Kd.C_drew ?_)))
           (case side2 => exact HC0_0.out)
           rintro e w93 ⟨v234, rfl, ho0, hb⟩
           refine ⟨_, rfl, ?_⟩
           have n0_ := Aside0.mk (Kd.R_elder' z5_5_ (Kd.R_base ho0) hb)
           have n1_ := Aside0.mk (Kd.R_elder' z5_10_ (Kd.R_base ho0) hb)
           have n2_ := Aside0.mk (Kd.R_elder' z5_11_ (Kd.R_base ho0) hb)
           have n3_ := Aside0.mk (Kd.R_elder' z5_14_ (Kd.R_base ho0) hb)
           have n4_ := Aside0.mk (Kd.R_elder' z5_15_ (Kd.R_base ho0) hb)
           have n5_ := Aside0.mk (Kd.R_lower (Kd.R_new' (Kd.R_new' (Kd.R_new' (Kd.R_new' (Kd.R_new' ho0 (Kd.R_lt z5_5_)) (Kd.R_lt z5_10_)) (Kd.R_lt z5_11_)) (Kd.R_lt z5_14_)) (Kd.R_lt z5_15_)) (below_size z5_6_))
           have n6_ := Aside0.mk (blk_below (g := gb194) (o := .cells #[.slice A0_0 l0_0.length c0_0] 39 (0, 0)) z5_0_ hb)
           have n7_ := Aside0.mk (blk_below (g := gb195) (o := .cells #[.int .i64 a1_0, .int .i64 a1_1, .int .i64 a1_2] 23 (0, 0)) z5_1_ hb)
           have n8_ := Aside0.mk (blk_below (g := gb207) (o := .cells #[.slice Ao51 t203.length co51] 44 (0, 0)) z5_3_ hb)
           have n9_ := Aside0.mk (blk_below (g := gb211) (o := .cells #[.slice Ao57 t208.length co57] 44 (0, 0)) z5_4_ hb)
           have n10_ := Aside0.mk (blk_below (g := gb219) (o := .cells #[.slice Ao68 t215.length co68] 44 (0, 0)) z5_8_ hb)
           have n11_ := Aside0.mk (blk_below (g := gb243) (o := .cells #[.slice none 0 0] 44 (0, 0)) z5_17_ hb)
           have n12_ := Aside0.mk (below_step z5_6_ hb)
           clear HO199
           clear HO205
           clear HO210
           clear HO217
           clear HO224
           clear BK194
           clear BK195
           clear BK207
           clear BK211
           clear BK219
           clear BK243
           clear HB
           have HO199 := n0_
           have HO205 := n1_
           have HO210 := n2_
           have HO217 := n3_
           have HO224 := n4_
           have HO235 := n5_
           have BK194 := n6_
           have BK195 := n7_
           have BK207 := n8_
           have BK211 := n9_
           have BK219 := n10_
           have BK243 := n11_
           have HB := n12_
           clear n0_ n1_ n2_ n3_ n4_ n5_ n6_ n7_ n8_ n9_ n10_ n11_ n12_
           (try clear hb)
           (try clear hb2)
           (try clear hk)
           (try clear hi)
           (try clear ho0)
           refine hK.out _ _ ⟨(blk_cell BK194.out 0).trans rfl, (blk_cell BK195.out 0).trans rfl, (blk_cell BK195.out 1).trans rfl, (blk_cell BK195.out 2).trans rfl⟩ (fun hHeld => ?_)
           clear hK K
           refine norm_ (a' := ?_) ?_ ?_
           rotate_left
           · show Act.put _ (some 81) _ = _
             simp only [Act.put, List.setIfInBounds_toArray, List.set_cons_zero, List.set_cons_succ, i64_w, i32_w]
             rfl
           refine one_ (i := 3) (N := some 83) #[true, true, true, true, false, false, false, false, true, false, false] rfl rfl (one_of HT_.out (by kernel_rfl)) (by decide) (fun K hK => ?_)
           refine goes_ Try.func9 (by kernel_rfl) rfl #[.agg #[.int .i64 a1_0, .int .i64 a1_1, .int .i64 a1_2]] (by rfl) rfl rfl z5_9_ ?_
           with_reducible refine (laws_toClue.calls a1_0 a1_1 a1_2 t236 t237 t238 _ A31.out).mono ?_
           rintro e w94 ⟨rfl, hb⟩
           refine ⟨_, rfl, ?_⟩
           have n0_ := Aside0.mk (Kd.R_below z5_5_ hb)
           have n1_ := Aside0.mk (Kd.R_below z5_10_ hb)
           have n2_ := Aside0.mk (Kd.R_below z5_11_ hb)
           have n3_ := Aside0.mk (Kd.R_below z5_14_ hb)
           have n4_ := Aside0.mk (Kd.R_below z5_15_ hb)
           have n5_ := Aside0.mk (Kd.R_below z5_16_ hb)
           have n6_ := Aside0.mk (blk_below (g := gb194) (o := .cells #[.slice A0_0 l0_0.length c0_0] 39 (0, 0)) z5_0_ hb)
           have n7_ := Aside0.mk (blk_below (g := gb195) (o := .cells #[.int .i64 a1_0, .int .i64 a1_1, .int .i64 a1_2] 23 (0, 0)) z5_1_ hb)
           have n8_ := Aside0.mk (blk_below (g := gb207) (o := .cells #[.slice Ao51 t203.length co51] 44 (0, 0)) z5_3_ hb)
           have n9_ := Aside0.mk (blk_below (g := gb211) (o := .cells #[.slice Ao57 t208.length co57] 44 (0, 0)) z5_4_ hb)
           have n10_ := Aside0.mk (blk_below (g := gb219) (o := .cells #[.slice Ao68 t215.length co68] 44 (0, 0)) z5_8_ hb)
           have n11_ := Aside0.mk (blk_below (g := gb243) (o := .cells #[.slice none 0 0] 44 (0, 0)) z5_17_ hb)
           have n12_ := Aside0.mk (below_step z5_6_ hb)
           clear HO199
           clear HO205
           clear HO210
           clear HO217
           clear HO224
           clear HO235
           clear BK194
           clear BK195
           clear BK207
           clear BK211
           clear BK219
           clear BK243
           clear HB
           have HO199 := n0_
           have HO205 := n1_
           have HO210 := n2_
           have HO217 := n3_
           have HO224 := n4_
           have HO235 := n5_
           have BK194 := n6_
           have BK195 := n7_
           have BK207 := n8_
           have BK211 := n9_
           have BK219 := n10_
           have BK243 := n11_
           have HB := n12_
           clear n0_ n1_ n2_ n3_ n4_ n5_ n6_ n7_ n8_ n9_ n10_ n11_ n12_
           (try clear hb)
           (try clear hb2)
           (try clear hk)
           (try clear hi)
           obtain ⟨Ao95, co95, eo95⟩ := Kd.R_slice HO235.out
           (first | subst eo95 | (injection eo95 with f1_ f2_ f3_; have f4_ := f1_.symm; have f5_ := f3_.symm; clear f1_ f2_ f3_; subst f4_; subst f5_))
           refine hK.out _ _ ⟨(blk_cell BK194.out 0).trans rfl, (blk_cell BK195.out 0).trans rfl, (blk_cell BK195.out 1).trans rfl, (blk_cell BK195.out 2).trans rfl⟩ (fun hHeld => ?_)
           clear hK K
           refine norm_ (a' := ?_) ?_ ?_
           rotate_left
           · show Act.put _ (some 83) _ = _
             simp only [Act.put, List.setIfInBounds_toArray, List.set_cons_zero, List.set_cons_succ, i64_w, i32_w]
             rfl
           refine one_ (i := 4) (N := some 84) #[true, true, true, true, true, false, false, false, true, false, false] rfl rfl (one_of HT_.out (by kernel_rfl)) (by decide) (fun K hK => ?_)
           refine goes_ Try.func22 (by kernel_rfl) rfl #[.agg #[.slice Ao95 t233.length co95], .agg #[.int .i64 t236, .int .i64 t237, .int .i64 t238]] (by rfl) rfl rfl z5_9_ ?_
           with_reducible refine (impl_AddClue.calls k _ _ t233 t236 t237 t238 t239 t242 _ ?side1 ?side2 A32.out).mono ?_
           (case side1 => repeat (first | exact (Kd.R_reads' HO235.out).2.2 | (with_reducible refine Kd.C_alloc ?_ _) | (with_reducible refine Kd.C_drewN ?_ _) | (with_reducible refine Kd.C_drew ?_)))
           (case side2 => exact (Kd.R_reads' HO235.out).2.1)
           rintro e w96 ⟨v240, rfl, ho0, hb⟩
           refine ⟨_, rfl, ?_⟩
           have n0_ := Aside0.mk (Kd.R_elder' z5_5_ (Kd.R_base ho0) hb)
           have n1_ := Aside0.mk (Kd.R_elder' z5_10_ (Kd.R_base ho0) hb)
           have n2_ := Aside0.mk (Kd.R_elder' z5_11_ (Kd.R_base ho0) hb)
           have n3_ := Aside0.mk (Kd.R_elder' z5_14_ (Kd.R_base ho0) hb)
           have n4_ := Aside0.mk (Kd.R_elder' z5_15_ (Kd.R_base ho0) hb)
           have n5_ := Aside0.mk (Kd.R_elder' z5_16_ (Kd.R_base ho0) hb)
           have n6_ := Aside0.mk (Kd.R_lower (Kd.R_new' (Kd.R_new' (Kd.R_new' (Kd.R_new' (Kd.R_new' (Kd.R_new' ho0 (Kd.R_lt z5_5_)) (Kd.R_lt z5_10_)) (Kd.R_lt z5_11_)) (Kd.R_lt z5_14_)) (Kd.R_lt z5_15_)) (Kd.R_lt z5_16_)) (below_size z5_6_))
           have n7_ := Aside0.mk (blk_below (g := gb194) (o := .cells #[.slice A0_0 l0_0.length c0_0] 39 (0, 0)) z5_0_ hb)
           have n8_ := Aside0.mk (blk_below (g := gb195) (o := .cells #[.int .i64 a1_0, .int .i64 a1_1, .int .i64 a1_2] 23 (0, 0)) z5_1_ hb)
           have n9_ := Aside0.mk (blk_below (g := gb207) (o := .cells #[.slice Ao51 t203.length co51] 44 (0, 0)) z5_3_ hb)
           have n10_ := Aside0.mk (blk_below (g := gb211) (o := .cells #[.slice Ao57 t208.length co57] 44 (0, 0)) z5_4_ hb)
           have n11_ := Aside0.mk (blk_below (g := gb219) (o := .cells #[.slice Ao68 t215.length co68] 44 (0, 0)) z5_8_ hb)
           have n12_ := Aside0.mk (blk_below (g := gb243) (o := .cells #[.slice none 0 0] 44 (0, 0)) z5_17_ hb)
           have n13_ := Aside0.mk (below_step z5_6_ hb)
           clear HO199
           clear HO205
           clear HO210
           clear HO217
           clear HO224
           clear HO235
           clear BK194
           clear BK195
           clear BK207
           clear BK211
           clear BK219
           clear BK243
           clear HB
           have HO199 := n0_
           have HO205 := n1_
           have HO210 := n2_
           have HO217 := n3_
           have HO224 := n4_
           have HO235 := n5_
           have HO241 := n6_
           have BK194 := n7_
           have BK195 := n8_
           have BK207 := n9_
           have BK211 := n10_
           have BK219 := n11_
           have BK243 := n12_
           have HB := n13_
           clear n0_ n1_ n2_ n3_ n4_ n5_ n6_ n7_ n8_ n9_ n10_ n11_ n12_ n13_
           (try clear hb)
           (try clear hb2)
           (try clear hk)
           (try clear hi)
           (try clear ho0)
           refine hK.out _ _ ⟨(blk_cell BK194.out 0).trans rfl, (blk_cell BK195.out 0).trans rfl, (blk_cell BK195.out 1).trans rfl, (blk_cell BK195.out 2).trans rfl⟩ (fun hHeld => ?_)
           clear hK K
           refine norm_ (a' := ?_) ?_ ?_
           rotate_left
           · show Act.put _ (some 84) _ = _
             simp only [Act.put, List.setIfInBounds_toArray, List.set_cons_zero, List.set_cons_succ, i64_w, i32_w]
             rfl
           refine pure_ (i := 5) (N := some 79) (v := ?_) (a' := ?_) #[true, true, true, true, true, true, false, false, true, false, false] rfl rfl (any_of HT_.out (by kernel_rfl)) (fun _ _ _ h => h) (Or.inl ⟨by rfl, ?_⟩) ?_ ?_
           rotate_left
           · intro w'
             go_simp
             with_reducible rfl
           rotate_left
           · simp only [Act.put, List.setIfInBounds_toArray, List.set_cons_zero, List.set_cons_succ, i64_w, i32_w]
             rfl
           refine pure_ (i := 6) (N := some 85) (v := ?_) (a' := ?_) #[true, true, true, true, true, true, true, false, true, false, false] rfl rfl (any_of HT_.out (by kernel_rfl)) (fun _ _ _ h => h) (Or.inl ⟨by rfl, ?_⟩) ?_ ?_
           rotate_left
           · intro w'
             go_simp
             with_reducible rfl
           rotate_left
           · simp only [Act.put, List.setIfInBounds_toArray, List.set_cons_zero, List.set_cons_succ, i64_w, i32_w]
             rfl
           refine pure_ (i := 7) (N := some 86) (v := ?_) (a' := ?_) #[true, true, true, true, true, true, true, true, true, false, false] rfl rfl (any_of HT_.out (by kernel_rfl)) (fun _ _ _ h => h) (Or.inl ⟨by rfl, ?_⟩) ?_ ?_
           rotate_left
           · intro w'
             go_simp
             with_reducible rfl
           rotate_left
           · simp only [Act.put, List.setIfInBounds_toArray, List.set_cons_zero, List.set_cons_succ, i64_w, i32_w]
             rfl
           exact norm_ z5_18_ (hCont (.slice Ao95 t233.length co95, v240, gb243) _ ⟨hHeld, z5_22_, z5_23_, z5_24_, z5_25_, z5_26_, z5_20_, z5_21_, z5_0_, z5_1_, z5_3_, z5_4_, z5_8_, z5_17_, GW243.out, GE243.out, NB194_243.out, NB243_194.out, NB195_243.out, NB243_195.out, NB207_243.out, NB243_207.out, NB211_243.out, NB243_211.out, NB219_243.out, NB243_219.out, z5_6_⟩)
         rintro ⟨v234, v240, gb243⟩ w97 ⟨hS_, h0_, h1_, h2_, h3_, h4_, h5_, h6_, h7_, h8_, h9_, h10_, h11_, h12_, h13_, h14_, h15_, h16_, h17_, h18_, h19_, h20_, h21_, h22_, h23_, h24_, h25_⟩
         have n0_ : Aside0 (Kd.R k25 25 w97 w.heap.size (fun k_ => some k_ ≠ (.slice Ao51 t203.length co51 : Value).ownBlock ∧ some k_ ≠ (.slice Ao57 t208.length co57 : Value).ownBlock ∧ some k_ ≠ (.slice Ao68 t215.length co68 : Value).ownBlock ∧ some k_ ≠ (.slice Ao80 t222.length co80 : Value).ownBlock ∧ some k_ ≠ (v234 : Value).ownBlock ∧ some k_ ≠ (v240 : Value).ownBlock) v198 t197) := ⟨h0_⟩
         have n1_ : Aside0 (Kd.R k25 25 w97 w.heap.size (fun k_ => some k_ ≠ (v198 : Value).ownBlock ∧ some k_ ≠ (.slice Ao57 t208.length co57 : Value).ownBlock ∧ some k_ ≠ (.slice Ao68 t215.length co68 : Value).ownBlock ∧ some k_ ≠ (.slice Ao80 t222.length co80 : Value).ownBlock ∧ some k_ ≠ (v234 : Value).ownBlock ∧ some k_ ≠ (v240 : Value).ownBlock) (.slice Ao51 t203.length co51) t203) := ⟨h1_⟩
         have n2_ : Aside0 (Kd.R k25 25 w97 w.heap.size (fun k_ => some k_ ≠ (v198 : Value).ownBlock ∧ some k_ ≠ (.slice Ao51 t203.length co51 : Value).ownBlock ∧ some k_ ≠ (.slice Ao68 t215.length co68 : Value).ownBlock ∧ some k_ ≠ (.slice Ao80 t222.length co80 : Value).ownBlock ∧ some k_ ≠ (v234 : Value).ownBlock ∧ some k_ ≠ (v240 : Value).ownBlock) (.slice Ao57 t208.length co57) t227) := ⟨h2_⟩
         have n3_ : Aside0 (Kd.R k25 25 w97 w.heap.size (fun k_ => some k_ ≠ (v198 : Value).ownBlock ∧ some k_ ≠ (.slice Ao51 t203.length co51 : Value).ownBlock ∧ some k_ ≠ (.slice Ao57 t208.length co57 : Value).ownBlock ∧ some k_ ≠ (.slice Ao80 t222.length co80 : Value).ownBlock ∧ some k_ ≠ (v234 : Value).ownBlock ∧ some k_ ≠ (v240 : Value).ownBlock) (.slice Ao68 t215.length co68) t231) := ⟨h3_⟩
         have n4_ : Aside0 (Kd.R k25 25 w97 w.heap.size (fun k_ => some k_ ≠ (v198 : Value).ownBlock ∧ some k_ ≠ (.slice Ao51 t203.length co51 : Value).ownBlock ∧ some k_ ≠ (.slice Ao57 t208.length co57 : Value).ownBlock ∧ some k_ ≠ (.slice Ao68 t215.length co68 : Value).ownBlock ∧ some k_ ≠ (v234 : Value).ownBlock ∧ some k_ ≠ (v240 : Value).ownBlock) (.slice Ao80 t222.length co80) t222) := ⟨h4_⟩
         have n5_ : Aside0 (Kd.R k25 25 w97 w.heap.size (fun k_ => some k_ ≠ (v198 : Value).ownBlock ∧ some k_ ≠ (.slice Ao51 t203.length co51 : Value).ownBlock ∧ some k_ ≠ (.slice Ao57 t208.length co57 : Value).ownBlock ∧ some k_ ≠ (.slice Ao68 t215.length co68 : Value).ownBlock ∧ some k_ ≠ (.slice Ao80 t222.length co80 : Value).ownBlock ∧ some k_ ≠ (v240 : Value).ownBlock) v234 t233) := ⟨h5_⟩
         have n6_ : Aside0 (Kd.R k25 25 w97 w.heap.size (fun k_ => some k_ ≠ (v198 : Value).ownBlock ∧ some k_ ≠ (.slice Ao51 t203.length co51 : Value).ownBlock ∧ some k_ ≠ (.slice Ao57 t208.length co57 : Value).ownBlock ∧ some k_ ≠ (.slice Ao68 t215.length co68 : Value).ownBlock ∧ some k_ ≠ (.slice Ao80 t222.length co80 : Value).ownBlock ∧ some k_ ≠ (v234 : Value).ownBlock) v240 t239) := ⟨h6_⟩
         have n7_ : Aside0 (w97.heap[gb194]? = some (.cells #[.slice A0_0 l0_0.length c0_0] 39 (0, 0))) := ⟨h7_⟩
         have n8_ : Aside0 (w97.heap[gb195]? = some (.cells #[.int .i64 a1_0, .int .i64 a1_1, .int .i64 a1_2] 23 (0, 0))) := ⟨h8_⟩
         have n9_ : Aside0 (w97.heap[gb207]? = some (.cells #[.slice Ao51 t203.length co51] 44 (0, 0))) := ⟨h9_⟩
         have n10_ : Aside0 (w97.heap[gb211]? = some (.cells #[.slice Ao57 t208.length co57] 44 (0, 0))) := ⟨h10_⟩
         have n11_ : Aside0 (w97.heap[gb219]? = some (.cells #[.slice Ao68 t215.length co68] 44 (0, 0))) := ⟨h11_⟩
         have n12_ : Aside0 (w97.heap[gb243]? = some (.cells #[.slice none 0 0] 44 (0, 0))) := ⟨h12_⟩
         have n13_ : Aside0 (w.heap.size ≤ gb243) := ⟨h13_⟩
         have n14_ : Aside0 (w.heap.size ≤ gb243) := ⟨h14_⟩
         have n15_ : Aside0 (gb194 ≠ gb243) := ⟨h15_⟩
         have n16_ : Aside0 (gb243 ≠ gb194) := ⟨h16_⟩
         have n17_ : Aside0 (gb195 ≠ gb243) := ⟨h17_⟩
         have n18_ : Aside0 (gb243 ≠ gb195) := ⟨h18_⟩
         have n19_ : Aside0 (gb207 ≠ gb243) := ⟨h19_⟩
         have n20_ : Aside0 (gb243 ≠ gb207) := ⟨h20_⟩
         have n21_ : Aside0 (gb211 ≠ gb243) := ⟨h21_⟩
         have n22_ : Aside0 (gb243 ≠ gb211) := ⟨h22_⟩
         have n23_ : Aside0 (gb219 ≠ gb243) := ⟨h23_⟩
         have n24_ : Aside0 (gb243 ≠ gb219) := ⟨h24_⟩
         have n25_ : Aside0 (Below w.heap.size w w97) := ⟨h25_⟩
         clear HO199
         clear HO205
         clear HO210
         clear HO217
         clear HO224
         clear BK194
         clear BK195
         clear BK207
         clear BK211
         clear BK219
         clear HB
         clear h0_ h1_ h2_ h3_ h4_ h5_ h6_ h7_ h8_ h9_ h10_ h11_ h12_ h13_ h14_ h15_ h16_ h17_ h18_ h19_ h20_ h21_ h22_ h23_ h24_ h25_
         have HO199 := n0_
         have HO205 := n1_
         have HO210 := n2_
         have HO217 := n3_
         have HO224 := n4_
         have HO235 := n5_
         have HO241 := n6_
         have BK194 := n7_
         have BK195 := n8_
         have BK207 := n9_
         have BK211 := n10_
         have BK219 := n11_
         have BK243 := n12_
         have GW243 := n13_
         have GE243 := n14_
         have NB194_243 := n15_
         have NB243_194 := n16_
         have NB195_243 := n17_
         have NB243_195 := n18_
         have NB207_243 := n19_
         have NB243_207 := n20_
         have NB211_243 := n21_
         have NB243_211 := n22_
         have NB219_243 := n23_
         have NB243_219 := n24_
         have HB := n25_
         clear n0_ n1_ n2_ n3_ n4_ n5_ n6_ n7_ n8_ n9_ n10_ n11_ n12_ n13_ n14_ n15_ n16_ n17_ n18_ n19_ n20_ n21_ n22_ n23_ n24_ n25_
         have hHeld : w97.cell? ⟨gb194, 0, none⟩ = some (.slice A0_0 l0_0.length c0_0) ∧ w97.cell? ⟨gb195, 0, none⟩ = some (.int .i64 a1_0) ∧ w97.cell? ⟨gb195, 1, none⟩ = some (.int .i64 a1_1) ∧ w97.cell? ⟨gb195, 2, none⟩ = some (.int .i64 a1_2) := hS_
         obtain ⟨Ao98, co98, eo98⟩ := Kd.R_slice HO241.out
         (first | subst eo98 | (injection eo98 with f1_ f2_ f3_; have f4_ := f1_.symm; have f5_ := f3_.symm; clear f1_ f2_ f3_; subst f4_; subst f5_))
         refine norm_ (a' := ?_) ?_ ?_
         rotate_left
         · simp only [putAll, Act.put, List.setIfInBounds_toArray, List.set_cons_zero, List.set_cons_succ]
           rfl
         refine one_ (i := 9) (N := none) #[true, true, true, true, true, true, true, true, true, true, false] rfl rfl (one_of HT_.out (by kernel_rfl)) (by decide) (fun K hK => ?_)
         have hs99 : w97.cell? ⟨gb243, 0, none⟩ = some (.slice none 0 0) := (blk_cell BK243.out 0).trans rfl
         have hfs99 := blk_frozen BK243.out 0
         have hns99_0 := NB194_243.out
         have hns99_1 := NB195_243.out
         have hns99_2 := NB207_243.out
         have hns99_3 := NB211_243.out
         have hns99_4 := NB219_243.out
         have hms99_0 := NB243_194.out
         have hms99_1 := NB243_195.out
         have hms99_2 := NB243_207.out
         have hms99_3 := NB243_211.out
         have hms99_4 := NB243_219.out
         refine skip_ (w1 := ?_) (by rfl) rfl ?_ ?_
         rotate_left
         · go_simp
           rfl
         refine hK.out _ _ ⟨((cell_far (p := ⟨gb243, _, none⟩) NB194_243.out _).trans (hHeld.1)), ((cell_far (p := ⟨gb243, _, none⟩) NB195_243.out _).trans (hHeld.2.1)), ((cell_far (p := ⟨gb243, _, none⟩) NB195_243.out _).trans (hHeld.2.2.1)), ((cell_far (p := ⟨gb243, _, none⟩) NB195_243.out _).trans (hHeld.2.2.2))⟩ (fun hHeld => ?_)
         clear hK K
         refine pure_ (i := 10) (N := some 15) (v := ?_) (a' := ?_) #[true, true, true, true, true, true, true, true, true, true, true] rfl rfl (any_of HT_.out (by kernel_rfl)) (fun _ _ _ h => h) (Or.inl ⟨by rfl, ?_⟩) ?_ ?_
         rotate_left
         · intro w'
           go_simp
           with_reducible rfl
         rotate_left
         · simp only [Act.put, List.setIfInBounds_toArray, List.set_cons_zero, List.set_cons_succ, i64_w, i32_w]
           rfl
         refine done_ (done_of HT_.out (by kernel_rfl)) ?_
         have hnb100 := NB243_194.out
         have hnc100 := NB194_243.out
         have hnb101 := NB243_195.out
         have hnc101 := NB195_243.out
         have hnb102 := NB243_207.out
         have hnc102 := NB207_243.out
         have hnb103 := NB243_211.out
         have hnc103 := NB211_243.out
         have hnb104 := NB243_219.out
         have hnc104 := NB219_243.out
         have hcz105_0 : w97.cell? ⟨gb243, 0, none⟩ = some (.slice none 0 0) := (blk_cell BK243.out 0).trans rfl
         have hfz105_0 := blk_frozen BK243.out 0
         have hcz106_0 : w97.cell? ⟨gb207, 0, none⟩ = some (.slice Ao51 t203.length co51) := (blk_cell BK207.out 0).trans rfl
         have hfz106_0 := blk_frozen BK207.out 0
         try go_wp2_with (first | ((with_reducible refine gate_callee (f := 20) rfl ?_); refine goesL_ (some 89) rfl rfl Try.func20 (by kernel_rfl) rfl #[.agg #[.slice Ao98 t239.length co98], .agg #[.slice Ao51 t203.length co51]] rfl z5_9_ ?_; (with_reducible refine (laws_eqPuzzle.calls k _ _ t239 _ _ t203 true _ ?side1 ?side2 ?side3 ?side4 A33.out).mono ?_); (case side1 => refine (Kd.R_reads' (e := 25) (base := w.heap.size) (ok := fun k_ => (some k_ ≠ (v198 : Value).ownBlock ∧ (some k_ ≠ (.slice Ao51 t203.length co51 : Value).ownBlock ∧ (some k_ ≠ (.slice Ao57 t208.length co57 : Value).ownBlock ∧ (some k_ ≠ (.slice Ao68 t215.length co68 : Value).ownBlock ∧ (some k_ ≠ (.slice Ao80 t222.length co80 : Value).ownBlock ∧ some k_ ≠ (v234 : Value).ownBlock)))))) (n := t239.length) (c := co98) ?_).2.2; exact (by (with_reducible repeat (first | apply Kd.R_alloc | apply Kd.R_drewN | apply Kd.R_drew)); exact (Kd.R_mono (Kd.R_far (p := ⟨gb243, 0, none⟩) (Kd.R_types HO241.out BK243.out (by decide)) (fun _ hk => hk.2) (.slice Ao98 t239.length co98)) (fun _ h_ => h_.1)))); (case side2 => exact (Kd.R_reads' HO241.out).2.1); (case side3 => refine (Kd.R_reads' (e := 25) (base := w.heap.size) (ok := fun k_ => (some k_ ≠ (v198 : Value).ownBlock ∧ (some k_ ≠ (.slice Ao57 t208.length co57 : Value).ownBlock ∧ (some k_ ≠ (.slice Ao68 t215.length co68 : Value).ownBlock ∧ (some k_ ≠ (.slice Ao80 t222.length co80 : Value).ownBlock ∧ (some k_ ≠ (v234 : Value).ownBlock ∧ some k_ ≠ (.slice Ao98 t239.length co98 : Value).ownBlock)))))) (n := t203.length) (c := co51) ?_).2.2; exact (by (with_reducible repeat (first | apply Kd.R_alloc | apply Kd.R_drewN | apply Kd.R_drew)); exact (Kd.R_mono (Kd.R_far (p := ⟨gb243, 0, none⟩) (Kd.R_types HO205.out BK243.out (by decide)) (fun _ hk => hk.2) (.slice Ao98 t239.length co98)) (fun _ h_ => h_.1)))); (case side4 => exact (Kd.R_reads' HO205.out).2.1); rintro e w107 ⟨rfl, hb⟩; refine ⟨_, rfl, ?_⟩; have n0_ := Aside0.mk (Kd.R_below (by (with_reducible repeat (first | apply Kd.R_alloc | apply Kd.R_drewN | apply Kd.R_drew)); exact (Kd.R_mono (Kd.R_far (p := ⟨gb243, 0, none⟩) (Kd.R_types HO199.out BK243.out (by decide)) (fun _ hk => hk.2) (.slice Ao98 t239.length co98)) (fun _ h_ => h_.1))) hb); have n1_ := Aside0.mk (Kd.R_below (by (with_reducible repeat (first | apply Kd.R_alloc | apply Kd.R_drewN | apply Kd.R_drew)); exact (Kd.R_mono (Kd.R_far (p := ⟨gb243, 0, none⟩) (Kd.R_types HO205.out BK243.out (by decide)) (fun _ hk => hk.2) (.slice Ao98 t239.length co98)) (fun _ h_ => h_.1))) hb); have n2_ := Aside0.mk (Kd.R_below (by (with_reducible repeat (first | apply Kd.R_alloc | apply Kd.R_drewN | apply Kd.R_drew)); exact (Kd.R_mono (Kd.R_far (p := ⟨gb243, 0, none⟩) (Kd.R_types HO210.out BK243.out (by decide)) (fun _ hk => hk.2) (.slice Ao98 t239.length co98)) (fun _ h_ => h_.1))) hb); have n3_ := Aside0.mk (Kd.R_below (by (with_reducible repeat (first | apply Kd.R_alloc | apply Kd.R_drewN | apply Kd.R_drew)); exact (Kd.R_mono (Kd.R_far (p := ⟨gb243, 0, none⟩) (Kd.R_types HO217.out BK243.out (by decide)) (fun _ hk => hk.2) (.slice Ao98 t239.length co98)) (fun _ h_ => h_.1))) hb); have n4_ := Aside0.mk (Kd.R_below (by (with_reducible repeat (first | apply Kd.R_alloc | apply Kd.R_drewN | apply Kd.R_drew)); exact (Kd.R_mono (Kd.R_far (p := ⟨gb243, 0, none⟩) (Kd.R_types HO224.out BK243.out (by decide)) (fun _ hk => hk.2) (.slice Ao98 t239.length co98)) (fun _ h_ => h_.1))) hb); have n5_ := Aside0.mk (Kd.R_below (by (with_reducible repeat (first | apply Kd.R_alloc | apply Kd.R_drewN | apply Kd.R_drew)); exact (Kd.R_mono (Kd.R_far (p := ⟨gb243, 0, none⟩) (Kd.R_types HO235.out BK243.out (by decide)) (fun _ hk => hk.2) (.slice Ao98 t239.length co98)) (fun _ h_ => h_.1))) hb); have n6_ := Aside0.mk (Kd.R_below (by (with_reducible repeat (first | apply Kd.R_alloc | apply Kd.R_drewN | apply Kd.R_drew)); exact (Kd.R_mono (Kd.R_far (p := ⟨gb243, 0, none⟩) (Kd.R_types HO241.out BK243.out (by decide)) (fun _ hk => hk.2) (.slice Ao98 t239.length co98)) (fun _ h_ => h_.1))) hb); have n7_ := Aside0.mk (blk_below (g := gb194) (o := .cells #[.slice A0_0 l0_0.length c0_0] 39 (0, 0)) (by (with_reducible repeat (first | refine blk_drewN ?_ _ | refine blk_drew ?_ | refine blk_alloc ?_ _)); refine blk_far ?_ NB194_243.out _; (with_reducible repeat (first | refine blk_drewN ?_ _ | refine blk_drew ?_ | refine blk_alloc ?_ _)); exact BK194.out) hb); have n8_ := Aside0.mk (blk_below (g := gb195) (o := .cells #[.int .i64 a1_0, .int .i64 a1_1, .int .i64 a1_2] 23 (0, 0)) (by (with_reducible repeat (first | refine blk_drewN ?_ _ | refine blk_drew ?_ | refine blk_alloc ?_ _)); refine blk_far ?_ NB195_243.out _; (with_reducible repeat (first | refine blk_drewN ?_ _ | refine blk_drew ?_ | refine blk_alloc ?_ _)); exact BK195.out) hb); have n9_ := Aside0.mk (blk_below (g := gb207) (o := .cells #[.slice Ao51 t203.length co51] 44 (0, 0)) (by (with_reducible repeat (first | refine blk_drewN ?_ _ | refine blk_drew ?_ | refine blk_alloc ?_ _)); refine blk_far ?_ NB207_243.out _; (with_reducible repeat (first | refine blk_drewN ?_ _ | refine blk_drew ?_ | refine blk_alloc ?_ _)); exact BK207.out) hb); have n10_ := Aside0.mk (blk_below (g := gb211) (o := .cells #[.slice Ao57 t208.length co57] 44 (0, 0)) (by (with_reducible repeat (first | refine blk_drewN ?_ _ | refine blk_drew ?_ | refine blk_alloc ?_ _)); refine blk_far ?_ NB211_243.out _; (with_reducible repeat (first | refine blk_drewN ?_ _ | refine blk_drew ?_ | refine blk_alloc ?_ _)); exact BK211.out) hb); have n11_ := Aside0.mk (blk_below (g := gb219) (o := .cells #[.slice Ao68 t215.length co68] 44 (0, 0)) (by (with_reducible repeat (first | refine blk_drewN ?_ _ | refine blk_drew ?_ | refine blk_alloc ?_ _)); refine blk_far ?_ NB219_243.out _; (with_reducible repeat (first | refine blk_drewN ?_ _ | refine blk_drew ?_ | refine blk_alloc ?_ _)); exact BK219.out) hb); have n12_ := Aside0.mk (blk_below (g := gb243) (o := .cells #[.slice Ao98 t239.length co98] 44 (0, 0)) (by (with_reducible repeat (first | refine blk_drewN ?_ _ | refine blk_drew ?_ | refine blk_alloc ?_ _)); refine blk_put (cs := #[.slice none 0 0]) ?_ 0 _ rfl; (with_reducible repeat (first | refine blk_drewN ?_ _ | refine blk_drew ?_ | refine blk_alloc ?_ _)); exact BK243.out) hb); have n13_ := Aside0.mk (below_step z5_6_ hb); clear HO199; clear HO205; clear HO210; clear HO217; clear HO224; clear HO235; clear HO241; clear BK194; clear BK195; clear BK207; clear BK211; clear BK219; clear BK243; clear HB; have HO199 := n0_; have HO205 := n1_; have HO210 := n2_; have HO217 := n3_; have HO224 := n4_; have HO235 := n5_; have HO241 := n6_; have BK194 := n7_; have BK195 := n8_; have BK207 := n9_; have BK211 := n10_; have BK219 := n11_; have BK243 := n12_; have HB := n13_; clear n0_ n1_ n2_ n3_ n4_ n5_ n6_ n7_ n8_ n9_ n10_ n11_ n12_ n13_; (try clear hb); (try clear hb2); (try clear hk); (try clear hi); have hcz108_0 : w107.cell? ⟨gb219, 0, none⟩ = some (.slice Ao68 t215.length co68) := (blk_cell BK219.out 0).trans rfl; have hfz108_0 := blk_frozen BK219.out 0) | ((with_reducible refine gate_callee (f := 24) rfl ?_); refine goesL_ (some 98) rfl rfl Try.func24 (by kernel_rfl) rfl #[.agg #[.slice Ao68 t231.length co68], .int .i64 1] rfl z5_34_ ?_; (with_reducible refine (laws_heldPuzzle.calls k _ _ t231 1 t246 _ ?side1 ?side2 A36.out).mono ?_); (case side1 => repeat (first | exact (Kd.R_reads' HO217.out).2.2 | (with_reducible refine Kd.C_alloc ?_ _) | (with_reducible refine Kd.C_drewN ?_ _) | (with_reducible refine Kd.C_drew ?_))); (case side2 => rw [show t231.length = t215.length from (Kd.R_reads' HO217.out).1.symm]; exact (Kd.R_reads' HO217.out).2.1); rintro e w109 ⟨rfl, hb⟩; refine ⟨_, rfl, ?_⟩; have n0_ := Aside0.mk (Kd.R_below z5_5_ hb); have n1_ := Aside0.mk (Kd.R_below z5_10_ hb); have n2_ := Aside0.mk (Kd.R_below z5_11_ hb); have n3_ := Aside0.mk (Kd.R_below z5_14_ hb); have n4_ := Aside0.mk (Kd.R_below z5_15_ hb); have n5_ := Aside0.mk (Kd.R_below z5_16_ hb); have n6_ := Aside0.mk (Kd.R_below (by (with_reducible repeat (first | apply Kd.R_alloc | apply Kd.R_drewN | apply Kd.R_drew)); exact HO241.out) hb); have n7_ := Aside0.mk (blk_below (g := gb194) (o := .cells #[.slice A0_0 l0_0.length c0_0] 39 (0, 0)) z5_0_ hb); have n8_ := Aside0.mk (blk_below (g := gb195) (o := .cells #[.int .i64 a1_0, .int .i64 a1_1, .int .i64 a1_2] 23 (0, 0)) z5_1_ hb); have n9_ := Aside0.mk (blk_below (g := gb207) (o := .cells #[.slice Ao51 t203.length co51] 44 (0, 0)) z5_3_ hb); have n10_ := Aside0.mk (blk_below (g := gb211) (o := .cells #[.slice Ao57 t208.length co57] 44 (0, 0)) z5_4_ hb); have n11_ := Aside0.mk (blk_below (g := gb219) (o := .cells #[.slice Ao68 t215.length co68] 44 (0, 0)) z5_8_ hb); have n12_ := Aside0.mk (blk_below (g := gb243) (o := .cells #[.slice Ao98 t239.length co98] 44 (0, 0)) z5_17_ hb); have n13_ := Aside0.mk (below_step z5_6_ hb); clear HO199; clear HO205; clear HO210; clear HO217; clear HO224; clear HO235; clear HO241; clear BK194; clear BK195; clear BK207; clear BK211; clear BK219; clear BK243; clear HB; have HO199 := n0_; have HO205 := n1_; have HO210 := n2_; have HO217 := n3_; have HO224 := n4_; have HO235 := n5_; have HO241 := n6_; have BK194 := n7_; have BK195 := n8_; have BK207 := n9_; have BK211 := n10_; have BK219 := n11_; have BK243 := n12_; have HB := n13_; clear n0_ n1_ n2_ n3_ n4_ n5_ n6_ n7_ n8_ n9_ n10_ n11_ n12_ n13_; (try clear hb); (try clear hb2); (try clear hk); (try clear hi)))
         go_ret
         exact ⟨by first | rfl | (simp [errW_none, errW_some] <;> rfl) | (simp [*, errW_none, errW_some] <;> rfl), by repeat (first | (with_reducible first | exact HB.out | apply below_alloc | apply pw_below_drewN | apply below_drew1 | refine below_set ?_ GE194.out | refine below_set ?_ GE195.out | refine below_set ?_ GE207.out | refine below_set ?_ GE211.out | refine below_set ?_ GE219.out | refine below_set ?_ GE243.out) | exact HB.out)⟩
       replace c34 := Bool.eq_false_iff.mpr c34
       subst c34
       rw [if_neg (show ¬ (false = true) by decide)] at H
       exact Bool.noConfusion ((Option.some.inj H).trans hr_.out)
     replace c25 := Bool.eq_false_iff.mpr c25
     subst c25
     rw [if_neg (show ¬ (false = true) by decide)] at H
     exact Bool.noConfusion ((Option.some.inj H).trans hr_.out)
   replace c21 := Bool.eq_false_iff.mpr c21
   subst c21
   rw [if_neg (show ¬ (false = true) by decide)] at H
   exact Bool.noConfusion ((Option.some.inj H).trans hr_.out)
 replace c17 := Bool.eq_false_iff.mpr c17
 subst c17
 rw [if_neg (show ¬ (false = true) by decide)] at H
 exact Bool.noConfusion ((Option.some.inj H).trans hr_.out)

end Go.Proofs.Ytkblngkfeafdaaa.PFnExactAddClue

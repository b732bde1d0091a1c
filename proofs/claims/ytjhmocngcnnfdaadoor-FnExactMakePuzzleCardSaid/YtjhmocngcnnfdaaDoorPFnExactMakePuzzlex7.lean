-- Laid by this session's program gprint.py over the kit's print.
import Derived.Test.YtjhmocngcnnfdaaDoorPFnExactMakePuzzlex0
import Derived.Test.YtjhmocngcnnfdaaDoorPFnExactMakePuzzlex1
import Derived.Test.YtjhmocngcnnfdaaDoorPFnExactMakePuzzlex3
import Derived.Test.YtjhmocngcnnfdaaDoorPFnExactMakePuzzlex6
namespace Go.Proofs.YtjhmocngcnnfdaaDoor.PFnExactMakePuzzle
open Go.RowKit Go.Proofs.YtjhmocngcnnfdaaDoorW.PrintWords Go.Proofs.YtjhmocngcnnfdaaDoorW.PrintLast Go.Proofs.YtjhmocngcnnfdaaDoorW.PrintMore
attribute [local go_sem] max2_int min2_int max_two min_two max_three min_three max_four min_four   -- for this text's walks alone
set_option linter.unusedVariables false
set_option linter.unusedSimpArgs false
theorem z7_0_ {p : Prop} (h : p := by repeat (first | (with_reducible first | exact HB.out | apply below_alloc | apply pw_below_drewN | apply below_drew1) | exact HB.out)) : p := h
theorem z7_1_ {p : Prop} (h : p := by repeat (first | (with_reducible first | exact HB.out | apply below_alloc | apply pw_below_drewN | apply below_drew1 | refine below_set ?_ GE163.out | refine below_set ?_ GE168.out) | exact HB.out)) : p := h
theorem z7_2_ {p : Prop} (h : p := by (with_reducible repeat (first | refine blk_drewN ?_ _ | refine blk_drew ?_ | refine blk_alloc ?_ _)); exact BK163.out) : p := h
theorem z7_3_ {p : Prop} (h : p := by (try simp only [List.map_toArray, List.map_cons, List.map_nil]); first | done | rfl | (simp only [List.length_drop, List.length_take]; rfl)) : p := h
theorem z7_4_ {p : Prop} (h : p := by (with_reducible repeat (first | refine blk_drewN ?_ _ | refine blk_drew ?_ | refine blk_alloc ?_ _)); exact BK168.out) : p := h
theorem z7_5_ {p : Prop} (h : p := by repeat (first | (with_reducible first | exact HB.out | apply below_alloc | apply pw_below_drewN | apply below_drew1 | refine below_set ?_ GE163.out) | exact HB.out)) : p := h
theorem z7_6_ {p : Prop} (h : p := by (with_reducible repeat (first | apply Kd.R_alloc | apply Kd.R_drewN | apply Kd.R_drew)); exact HO161.out) : p := h
theorem z7_7_ {p : Prop} (h : p := by (with_reducible repeat (first | apply Kd.R_alloc | apply Kd.R_drewN | apply Kd.R_drew)); exact HO166.out) : p := h
theorem z7_8_ {p : Prop} (h : p := by repeat (first | (with_reducible first | exact HB.out | apply below_alloc | apply pw_below_drewN | apply below_drew1 | refine below_set ?_ GE163.out | refine below_set ?_ GE168.out | refine below_set ?_ GE178.out) | exact HB.out)) : p := h
theorem z7_9_ {p : Prop} (h : p := by (try simp only [List.map_toArray, List.map_cons, List.map_nil]); first | done | (rw [show t172.length = t164.length from (Kd.R_reads' HO166.out).1.symm] <;> rfl) | rfl | (simp only [List.length_drop, List.length_take]; rfl)) : p := h

/-! ### laws_heldPuzzle: function 56 -/
def laws_heldPuzzle.f (k : Nat) (l0_0 : List (S96)) (a1 : Int) : Option (Int) := (laws_heldClueS.f k l0_0 a1).bind fun t158 => (if t158 < 0 then (some (-1)) else (some t158))
theorem laws_heldPuzzle.mono : ∀ a0 a1 k, LeO (laws_heldPuzzle.f k a0 a1) (laws_heldPuzzle.f (k + 1) a0 a1) := by
 intro a0 a1 k
 unfold laws_heldPuzzle.f
 repeat' first
  | (with_reducible exact laws_heldClueS.mono _ _ _)
  | (with_reducible exact LeO.refl _)
  | (with_reducible exact LeO.none _)
  | (with_reducible refine LeO.ite ?_ ?_)
  | (with_reducible refine LeO.bind ?_ (fun _ => ?_))
  | exact laws_heldClueS.mono _ _ _
  | exact LeO.none _
  | refine LeO.ite ?_ ?_
  | refine LeO.bind ?_ (fun _ => ?_)
set_option maxHeartbeats 8000000 in
set_option maxRecDepth 100000 in
theorem laws_heldPuzzle.calls (k : Nat) (A0_0 : Option Addr) (c0_0 : Nat) (l0_0 : List (S96)) (a1 : Int) (r : Int) (w : World) (hr0_0 : Kd.C k96 w A0_0 l0_0.length l0_0) (hc0_0 : l0_0.length ≤ c0_0) (h : laws_heldPuzzle.f k l0_0 a1 = some r) :
 Calls Tryd.prog 56 #[.agg #[.slice A0_0 l0_0.length c0_0], .int .i64 a1] w fun e w' => e = .returned (.int .i64 r) ∧ Below w.heap.size w w' := by
 have hu30 := Tryd.underlying30
 have HR0_0 := Aside0.mk hr0_0
 have HC0_0 := Aside0.mk hc0_0
 clear hr0_0 hc0_0
 have HB := Aside0.mk (Below.refl w.heap.size w)
 have H : ((laws_heldClueS.f k l0_0 a1).bind fun t158 => (if t158 < 0 then (some (-1)) else (some t158))) = some r := h
 clear h
 replace H := Option.bind_eq_some_iff.mp H
 obtain ⟨t158, A30, H⟩ := H
 have A3 := Aside0.mk A30
 clear A30
 by_cases c4 : t158 < 0
 · rw [if_pos c4] at H
   have c4b0 : decide (t158 < 0) = true := decide_eq_true c4
   clear c4
   obtain rfl := Option.some.inj H
   go_enter Tryd.func56, Tryd.ntmps56
   go_wp2_with (first | ((with_reducible refine gate_dst (N := 2) rfl ?_); refine box_event ?hg (N := 2) ?hd (cs := #[.slice A0_0 l0_0.length c0_0]) (t := 30) ?hr ?_; (case hd => rfl); (case hg => rfl); (case hr => first | (go_simp; done) | (go_simp; rfl)); intro gb157 hg w5 hbox hb; have n0_ := Aside0.mk (below_step z7_0_ hb); have n1_ := Aside0.mk (hbox); have n2_ := Aside0.mk ((by rw [hg]; exact (below_size z7_0_) : w.heap.size ≤ gb157)); have n3_ := Aside0.mk ((by rw [hg]; exact (below_size z7_0_) : w.heap.size ≤ gb157)); clear HB; have HB := n0_; have BK157 := n1_; have GW157 := n2_; have GE157 := n3_; clear n0_ n1_ n2_ n3_; clear hb hbox hg; have hcz6_0 : w5.cell? ⟨gb157, 0, none⟩ = some (.slice A0_0 l0_0.length c0_0) := (blk_cell BK157.out 0).trans rfl; have hfz6_0 := blk_frozen BK157.out 0) | ((with_reducible refine gate_callee (f := 115) rfl ?_); refine goesL_ (some 8) rfl rfl Tryd.func115 (by kernel_rfl) rfl #[.slice A0_0 l0_0.length c0_0, .int .i64 a1] rfl z7_3_ ?_; (with_reducible refine (laws_heldClueS.calls k _ _ l0_0 a1 t158 _ ?side1 ?side2 A3.out).mono ?_); (case side1 => repeat (first | exact (Kd.C_below HR0_0.out HB.out) | (with_reducible refine Kd.C_alloc ?_ _) | (with_reducible refine Kd.C_drewN ?_ _) | (with_reducible refine Kd.C_drew ?_))); (case side2 => exact HC0_0.out); rintro e w' ⟨rfl, ⟨nd, rfl⟩⟩; refine ⟨_, rfl, ?_⟩))
   go_ret
   exact ⟨by first | rfl | (simp [errW_none, errW_some] <;> rfl) | (simp [*, errW_none, errW_some] <;> rfl), by repeat (first | (with_reducible first | exact HB.out | apply below_alloc | apply pw_below_drewN | apply below_drew1 | refine below_set ?_ GE157.out) | exact HB.out)⟩
 rw [if_neg c4] at H
 have c4b0 : decide (t158 < 0) = false := decide_eq_false c4
 clear c4
 obtain rfl := Option.some.inj H
 go_enter Tryd.func56, Tryd.ntmps56
 go_wp2_with (first | ((with_reducible refine gate_dst (N := 2) rfl ?_); refine box_event ?hg (N := 2) ?hd (cs := #[.slice A0_0 l0_0.length c0_0]) (t := 30) ?hr ?_; (case hd => rfl); (case hg => rfl); (case hr => first | (go_simp; done) | (go_simp; rfl)); intro gb157 hg w7 hbox hb; have n0_ := Aside0.mk (below_step z7_0_ hb); have n1_ := Aside0.mk (hbox); have n2_ := Aside0.mk ((by rw [hg]; exact (below_size z7_0_) : w.heap.size ≤ gb157)); have n3_ := Aside0.mk ((by rw [hg]; exact (below_size z7_0_) : w.heap.size ≤ gb157)); clear HB; have HB := n0_; have BK157 := n1_; have GW157 := n2_; have GE157 := n3_; clear n0_ n1_ n2_ n3_; clear hb hbox hg; have hcz8_0 : w7.cell? ⟨gb157, 0, none⟩ = some (.slice A0_0 l0_0.length c0_0) := (blk_cell BK157.out 0).trans rfl; have hfz8_0 := blk_frozen BK157.out 0) | ((with_reducible refine gate_callee (f := 115) rfl ?_); refine goesL_ (some 8) rfl rfl Tryd.func115 (by kernel_rfl) rfl #[.slice A0_0 l0_0.length c0_0, .int .i64 a1] rfl z7_3_ ?_; (with_reducible refine (laws_heldClueS.calls k _ _ l0_0 a1 t158 _ ?side1 ?side2 A3.out).mono ?_); (case side1 => repeat (first | exact (Kd.C_below HR0_0.out HB.out) | (with_reducible refine Kd.C_alloc ?_ _) | (with_reducible refine Kd.C_drewN ?_ _) | (with_reducible refine Kd.C_drew ?_))); (case side2 => exact HC0_0.out); rintro e w' ⟨rfl, ⟨nd, rfl⟩⟩; refine ⟨_, rfl, ?_⟩))
 go_ret
 exact ⟨by first | rfl | (simp [errW_none, errW_some] <;> rfl) | (simp [*, errW_none, errW_some] <;> rfl), by repeat (first | (with_reducible first | exact HB.out | apply below_alloc | apply pw_below_drewN | apply below_drew1 | refine below_set ?_ GE157.out) | exact HB.out)⟩

/-! ### laws_FnExactMakePuzzle: function 10 -/
def laws_FnExactMakePuzzle.f (k : Nat) (a0 : ByteArray) (a1 : Int) (a2 : Int) : Option (Bool) := if (a0.size : Int) > 1048576 then (some true) else ((spec_MakePuzzle.f k a0 a1 a2).bind fun bt159 => ((impl_MakePuzzle.f k a0 a1 a2).bind fun bt164 => ((laws_eqPuzzle.f k bt164.1 bt159.1).bind fun t170 => (if t170 = true then (if (bt164.2 != bt159.2) = true then (some false) else ((laws_markPuzzle.f k bt164.1 1).bind fun bt171 => ((laws_heldPuzzle.f k bt171.2 1).bind fun t173 => (if t173 < 0 then (some false) else (if t173 = bt171.1 then ((impl_MakePuzzle.f k a0 a1 a2).bind fun bt174 => ((laws_eqPuzzle.f k bt174.1 bt159.1).bind fun t180 => (if t180 = true then (if (bt174.2 != bt159.2) = true then (some false) else ((laws_heldPuzzle.f k bt171.2 1).bind fun t181 => (if t181 < 0 then (some false) else (if t181 = bt171.1 then (some true) else (some false))))) else (some false)))) else (some false)))))) else (some false)))))
set_option maxHeartbeats 8000000 in
set_option maxRecDepth 100000 in
theorem laws_FnExactMakePuzzle.calls (k : Nat) (a0 : ByteArray) (a1 : Int) (a2 : Int) (r : Bool) (w : World) (hr_ : Aside0 (r = true)) (h : laws_FnExactMakePuzzle.f k a0 a1 a2 = some r) :
 Calls Tryd.prog 10 #[.string a0, .int .i64 a1, .int .i64 a2] w fun e w' => e = .returned (.bool r) ∧ Below w.heap.size w w' := by
 have hu30 := Tryd.underlying30
 have HB := Aside0.mk (Below.refl w.heap.size w)
 have H : (if (a0.size : Int) > 1048576 then (some true) else ((spec_MakePuzzle.f k a0 a1 a2).bind fun bt159 => ((impl_MakePuzzle.f k a0 a1 a2).bind fun bt164 => ((laws_eqPuzzle.f k bt164.1 bt159.1).bind fun t170 => (if t170 = true then (if (bt164.2 != bt159.2) = true then (some false) else ((laws_markPuzzle.f k bt164.1 1).bind fun bt171 => ((laws_heldPuzzle.f k bt171.2 1).bind fun t173 => (if t173 < 0 then (some false) else (if t173 = bt171.1 then ((impl_MakePuzzle.f k a0 a1 a2).bind fun bt174 => ((laws_eqPuzzle.f k bt174.1 bt159.1).bind fun t180 => (if t180 = true then (if (bt174.2 != bt159.2) = true then (some false) else ((laws_heldPuzzle.f k bt171.2 1).bind fun t181 => (if t181 < 0 then (some false) else (if t181 = bt171.1 then (some true) else (some false))))) else (some false)))) else (some false)))))) else (some false)))))) = some r := h
 clear h
 by_cases c4 : (a0.size : Int) > 1048576
 · rw [if_pos c4] at H
   have c4b0 : decide (1048576 < (a0.size : Int)) = true := decide_eq_true c4
   have c4b1 : decide (1048576 < a0.size) = true := decide_eq_true (by omega)
   clear c4
   obtain rfl := Option.some.inj H
   go_enter Tryd.func10, Tryd.ntmps10
   go_wp2
   go_ret
   exact ⟨by first | rfl | (simp [errW_none, errW_some] <;> rfl) | (simp [*, errW_none, errW_some] <;> rfl), by repeat (first | (with_reducible first | exact HB.out | apply below_alloc | apply pw_below_drewN | apply below_drew1) | exact HB.out)⟩
 rw [if_neg c4] at H
 have c4b0 : decide (1048576 < (a0.size : Int)) = false := decide_eq_false c4
 have c4b1 : decide (1048576 < a0.size) = false := decide_eq_false (by omega)
 clear c4
 replace H := Option.bind_eq_some_iff.mp H
 obtain ⟨⟨t159, t162⟩, A50, H⟩ := H
 dsimp only at H
 have A5 := Aside0.mk A50
 clear A50
 replace H := Option.bind_eq_some_iff.mp H
 obtain ⟨⟨t164, t167⟩, A60, H⟩ := H
 dsimp only at H
 have A6 := Aside0.mk A60
 clear A60
 replace H := Option.bind_eq_some_iff.mp H
 obtain ⟨t170, A70, H⟩ := H
 have A7 := Aside0.mk A70
 clear A70
 by_cases c8 : t170 = true
 · subst c8
   rw [if_pos rfl] at H
   by_cases c9 : (t167 != t162) = true
   · exact dead_ (if_pos c9) H hr_
   rw [if_neg c9] at H
   have c9b0 : (t167 != t162) = false := by simpa using c9
   (try (have c9b1 : decide (t167 = t162) = true := by simpa using c9))
   (try (have c9b2 : (t167 == t162) = true := by simpa using c9))
   clear c9
   replace H := Option.bind_eq_some_iff.mp H
   obtain ⟨⟨t171, t172⟩, A100, H⟩ := H
   dsimp only at H
   have A10 := Aside0.mk A100
   clear A100
   replace H := Option.bind_eq_some_iff.mp H
   obtain ⟨t173, A110, H⟩ := H
   have A11 := Aside0.mk A110
   clear A110
   by_cases c12 : t173 < 0
   · exact dead_ (if_pos c12) H hr_
   rw [if_neg c12] at H
   have c12b0 : decide (t173 < 0) = false := decide_eq_false c12
   clear c12
   by_cases c13 : t173 = t171
   rotate_left
   · exact dead_ (if_neg c13) H hr_
   rw [if_pos c13] at H
   have c13b0 : (t173 == t171) = true := beq_iff_eq.mpr c13
   have c13b1 : (t173 != t171) = false := bne_eq_false_iff_eq.mpr c13
   clear c13
   replace H := Option.bind_eq_some_iff.mp H
   obtain ⟨⟨t174, t177⟩, A140, H⟩ := H
   dsimp only at H
   have A14 := Aside0.mk A140
   clear A140
   replace H := Option.bind_eq_some_iff.mp H
   obtain ⟨t180, A150, H⟩ := H
   have A15 := Aside0.mk A150
   clear A150
   by_cases c16 : t180 = true
   · subst c16
     rw [if_pos rfl] at H
     by_cases c17 : (t177 != t162) = true
     · exact dead_ (if_pos c17) H hr_
     rw [if_neg c17] at H
     have c17b0 : (t177 != t162) = false := by simpa using c17
     (try (have c17b1 : decide (t177 = t162) = true := by simpa using c17))
     (try (have c17b2 : (t177 == t162) = true := by simpa using c17))
     clear c17
     replace H := Option.bind_eq_some_iff.mp H
     obtain ⟨t181, A180, H⟩ := H
     have A18 := Aside0.mk A180
     clear A180
     by_cases c19 : t181 < 0
     · exact dead_ (if_pos c19) H hr_
     rw [if_neg c19] at H
     have c19b0 : decide (t181 < 0) = false := decide_eq_false c19
     clear c19
     by_cases c20 : t181 = t171
     rotate_left
     · exact dead_ (if_neg c20) H hr_
     rw [if_pos c20] at H
     have c20b0 : (t181 == t171) = true := beq_iff_eq.mpr c20
     have c20b1 : (t181 != t171) = false := bne_eq_false_iff_eq.mpr c20
     clear c20
     obtain rfl := Option.some.inj H
     go_enter Tryd.func10, Tryd.ntmps10
     go_wp2_with (first | ((with_reducible refine gate_callee (f := 53) rfl ?_); refine goesL_ (some 22) rfl rfl Tryd.func53 (by kernel_rfl) rfl #[.string a0, .int .i64 a1, .int .i64 a2] rfl z7_3_ ?_; (with_reducible refine (spec_MakePuzzle.calls k a0 a1 a2 t159 t162 _ A5.out).mono ?_); rintro e w21 ⟨v160, rfl, ho0, hb⟩; refine ⟨_, rfl, ?_⟩; have n0_ := Aside0.mk (Kd.R_lower ho0 (below_size z7_0_)); have n1_ := Aside0.mk (below_step z7_0_ hb); clear HB; have HO161 := n0_; have HB := n1_; clear n0_ n1_; (try clear hb); (try clear hb2); (try clear hk); (try clear hi); (try clear ho0)) | ((with_reducible refine gate_dst (N := 7) rfl ?_); refine box_event ?hg (N := 7) ?hd (cs := #[.slice none 0 0]) (t := 30) ?hr ?_; (case hd => rfl); (case hg => rfl); (case hr => first | (go_simp; done) | (go_simp; rfl)); intro gb163 hg w22 hbox hb; have n0_ := Aside0.mk (Kd.R_below z7_6_ hb); have n1_ := Aside0.mk (below_step z7_0_ hb); have n2_ := Aside0.mk (hbox); have n3_ := Aside0.mk ((by rw [hg]; exact (below_size z7_0_) : w.heap.size ≤ gb163)); have n4_ := Aside0.mk ((by rw [hg]; exact (below_size z7_0_) : w.heap.size ≤ gb163)); clear HO161; clear HB; have HO161 := n0_; have HB := n1_; have BK163 := n2_; have GW163 := n3_; have GE163 := n4_; clear n0_ n1_ n2_ n3_ n4_; clear hb hbox hg; obtain ⟨Ao23, co23, eo23⟩ := Kd.R_slice HO161.out; subst eo23; have hcz24_0 : w22.cell? ⟨gb163, 0, none⟩ = some (.slice none 0 0) := (blk_cell BK163.out 0).trans rfl; have hfz24_0 := blk_frozen BK163.out 0) | ((with_reducible refine gate_callee (f := 54) rfl ?_); refine goesL_ (some 29) rfl rfl Tryd.func54 (by kernel_rfl) rfl #[.string a0, .int .i64 a1, .int .i64 a2] rfl z7_3_ ?_; (with_reducible refine (impl_MakePuzzle.calls k a0 a1 a2 t164 t167 _ A6.out).mono ?_); rintro e w25 ⟨v165, rfl, ho0, hb⟩; refine ⟨_, rfl, ?_⟩; have n0_ := Aside0.mk (Kd.R_elder' (by (with_reducible repeat (first | apply Kd.R_alloc | apply Kd.R_drewN | apply Kd.R_drew)); exact (Kd.R_mono (Kd.R_far (p := ⟨gb163, 0, none⟩) (Kd.R_types HO161.out BK163.out (by decide)) (fun _ hk => hk.2) (.slice Ao23 t159.length co23)) (fun _ h_ => h_.1))) (Kd.R_base ho0) hb); have n1_ := Aside0.mk (Kd.R_lower (Kd.R_new' ho0 (Kd.R_lt (by (with_reducible repeat (first | apply Kd.R_alloc | apply Kd.R_drewN | apply Kd.R_drew)); exact (Kd.R_mono (Kd.R_far (p := ⟨gb163, 0, none⟩) (Kd.R_types HO161.out BK163.out (by decide)) (fun _ hk => hk.2) (.slice Ao23 t159.length co23)) (fun _ h_ => h_.1))))) (below_size z7_5_)); have n2_ := Aside0.mk (blk_below (g := gb163) (o := .cells #[.slice Ao23 t159.length co23] 30 (0, 0)) (by (with_reducible repeat (first | refine blk_drewN ?_ _ | refine blk_drew ?_ | refine blk_alloc ?_ _)); refine blk_put (cs := #[.slice none 0 0]) ?_ 0 _ rfl; (with_reducible repeat (first | refine blk_drewN ?_ _ | refine blk_drew ?_ | refine blk_alloc ?_ _)); exact BK163.out) hb); have n3_ := Aside0.mk (below_step z7_5_ hb); clear HO161; clear BK163; clear HB; have HO161 := n0_; have HO166 := n1_; have BK163 := n2_; have HB := n3_; clear n0_ n1_ n2_ n3_; (try clear hb); (try clear hb2); (try clear hk); (try clear hi); (try clear ho0)) | ((with_reducible refine gate_dst (N := 9) rfl ?_); refine box_event ?hg (N := 9) ?hd (cs := #[.slice none 0 0]) (t := 30) ?hr ?_; (case hd => rfl); (case hg => rfl); (case hr => first | (go_simp; done) | (go_simp; rfl)); intro gb168 hg w26 hbox hb; have n0_ := Aside0.mk (Kd.R_below z7_6_ hb); have n1_ := Aside0.mk (Kd.R_below z7_7_ hb); have n2_ := Aside0.mk (blk_below (g := gb163) (o := .cells #[.slice Ao23 t159.length co23] 30 (0, 0)) z7_2_ hb); have n3_ := Aside0.mk (below_step z7_5_ hb); have n4_ := Aside0.mk (hbox); have n5_ := Aside0.mk ((by rw [hg]; exact (below_size z7_5_) : w.heap.size ≤ gb168)); have n6_ := Aside0.mk ((by rw [hg]; exact (below_size z7_5_) : w.heap.size ≤ gb168)); have n7_ := Aside0.mk ((by rw [hg]; exact Nat.ne_of_lt (blk_lt (g := gb163) (o := .cells #[.slice Ao23 t159.length co23] 30 (0, 0)) z7_2_) : gb163 ≠ gb168)); have n8_ := Aside0.mk ((by rw [hg]; exact Nat.ne_of_gt (blk_lt (g := gb163) (o := .cells #[.slice Ao23 t159.length co23] 30 (0, 0)) z7_2_) : gb168 ≠ gb163)); clear HO161; clear HO166; clear BK163; clear HB; have HO161 := n0_; have HO166 := n1_; have BK163 := n2_; have HB := n3_; have BK168 := n4_; have GW168 := n5_; have GE168 := n6_; have NB163_168 := n7_; have NB168_163 := n8_; clear n0_ n1_ n2_ n3_ n4_ n5_ n6_ n7_ n8_; clear hb hbox hg; obtain ⟨Ao27, co27, eo27⟩ := Kd.R_slice HO166.out; subst eo27; have hnb28 := NB168_163.out; have hnc28 := NB163_168.out; have hcz29_0 : w26.cell? ⟨gb168, 0, none⟩ = some (.slice none 0 0) := (blk_cell BK168.out 0).trans rfl; have hfz29_0 := blk_frozen BK168.out 0; have hcz30_0 : w26.cell? ⟨gb163, 0, none⟩ = some (.slice Ao23 t159.length co23) := (blk_cell BK163.out 0).trans rfl; have hfz30_0 := blk_frozen BK163.out 0) | ((with_reducible refine gate_callee (f := 16) rfl ?_); refine goesL_ (some 34) rfl rfl Tryd.func16 (by kernel_rfl) rfl #[.agg #[.slice Ao27 t164.length co27], .agg #[.slice Ao23 t159.length co23]] rfl z7_3_ ?_; (with_reducible refine (laws_eqPuzzle.calls k _ _ t164 _ _ t159 true _ ?side1 ?side2 ?side3 ?side4 A7.out).mono ?_); (case side1 => refine (Kd.R_reads' (e := 96) (base := w.heap.size) (ok := fun k_ => (True ∧ some k_ ≠ (.slice Ao23 t159.length co23 : Value).ownBlock)) (n := t164.length) (c := co27) ?_).2.2; exact (by (with_reducible repeat (first | apply Kd.R_alloc | apply Kd.R_drewN | apply Kd.R_drew)); exact (Kd.R_mono (Kd.R_far (p := ⟨gb168, 0, none⟩) (Kd.R_types HO166.out BK168.out (by decide)) (fun _ hk => hk.2) (.slice Ao27 t164.length co27)) (fun _ h_ => h_.1)))); (case side2 => exact (Kd.R_reads' HO166.out).2.1); (case side3 => refine (Kd.R_reads' (e := 96) (base := w.heap.size) (ok := fun k_ => (True ∧ some k_ ≠ (.slice Ao27 t164.length co27 : Value).ownBlock)) (n := t159.length) (c := co23) ?_).2.2; exact (by (with_reducible repeat (first | apply Kd.R_alloc | apply Kd.R_drewN | apply Kd.R_drew)); exact (Kd.R_mono (Kd.R_far (p := ⟨gb168, 0, none⟩) (Kd.R_types HO161.out BK168.out (by decide)) (fun _ hk => hk.2) (.slice Ao27 t164.length co27)) (fun _ h_ => h_.1)))); (case side4 => exact (Kd.R_reads' HO161.out).2.1); rintro e w31 ⟨rfl, hb⟩; refine ⟨_, rfl, ?_⟩; have n0_ := Aside0.mk (Kd.R_below (by (with_reducible repeat (first | apply Kd.R_alloc | apply Kd.R_drewN | apply Kd.R_drew)); exact (Kd.R_mono (Kd.R_far (p := ⟨gb168, 0, none⟩) (Kd.R_types HO161.out BK168.out (by decide)) (fun _ hk => hk.2) (.slice Ao27 t164.length co27)) (fun _ h_ => h_.1))) hb); have n1_ := Aside0.mk (Kd.R_below (by (with_reducible repeat (first | apply Kd.R_alloc | apply Kd.R_drewN | apply Kd.R_drew)); exact (Kd.R_mono (Kd.R_far (p := ⟨gb168, 0, none⟩) (Kd.R_types HO166.out BK168.out (by decide)) (fun _ hk => hk.2) (.slice Ao27 t164.length co27)) (fun _ h_ => h_.1))) hb); have n2_ := Aside0.mk (blk_below (g := gb163) (o := .cells #[.slice Ao23 t159.length co23] 30 (0, 0)) (by (with_reducible repeat (first | refine blk_drewN ?_ _ | refine blk_drew ?_ | refine blk_alloc ?_ _)); refine blk_far ?_ NB163_168.out _; (with_reducible repeat (first | refine blk_drewN ?_ _ | refine blk_drew ?_ | refine blk_alloc ?_ _)); exact BK163.out) hb); have n3_ := Aside0.mk (blk_below (g := gb168) (o := .cells #[.slice Ao27 t164.length co27] 30 (0, 0)) (by (with_reducible repeat (first | refine blk_drewN ?_ _ | refine blk_drew ?_ | refine blk_alloc ?_ _)); refine blk_put (cs := #[.slice none 0 0]) ?_ 0 _ rfl; (with_reducible repeat (first | refine blk_drewN ?_ _ | refine blk_drew ?_ | refine blk_alloc ?_ _)); exact BK168.out) hb); have n4_ := Aside0.mk (below_step z7_1_ hb); clear HO161; clear HO166; clear BK163; clear BK168; clear HB; have HO161 := n0_; have HO166 := n1_; have BK163 := n2_; have BK168 := n3_; have HB := n4_; clear n0_ n1_ n2_ n3_ n4_; (try clear hb); (try clear hb2); (try clear hk); (try clear hi); have hcz32_0 : w31.cell? ⟨gb168, 0, none⟩ = some (.slice Ao27 t164.length co27) := (blk_cell BK168.out 0).trans rfl; have hfz32_0 := blk_frozen BK168.out 0) | ((with_reducible refine gate_callee (f := 55) rfl ?_); refine goesL_ (some 43) rfl rfl Tryd.func55 (by kernel_rfl) rfl #[.agg #[.slice Ao27 t164.length co27], .int .i64 1] rfl z7_3_ ?_; (with_reducible refine (laws_markPuzzle.calls k (fun k_ => some k_ = (.slice Ao27 t164.length co27 : Value).ownBlock) (.slice Ao27 t164.length co27) t164 1 t171 t172 w _ ?side1 ?side2 A10.out).mono ?_); (case side1 => repeat (first | (with_reducible first | exact HB.out | apply below_alloc | apply pw_below_drewN | apply below_drew1 | refine below_set ?_ GE163.out | refine below_set ?_ GE168.out) | exact HB.out)); (case side2 => exact Kd.R_tight rfl HO166.out); rintro e w33 ⟨rfl, hy0, hb, hkp⟩; refine ⟨_, rfl, ?_⟩; have n0_ := Aside0.mk (Kd.R_mono (ok' := fun k_ => some k_ ≠ (.slice Ao27 t164.length co27 : Value).ownBlock) (Kd.R_keptB (HO161.out) hkp (fun k_ hk_ hs_ => (by first | exact hk_ hs_ | exact hk_.1.1.2 hs_ | exact hk_.1.1.1 hs_ | exact hk_.1.1.1.2 hs_ | exact hk_.1.2 hs_ | exact hk_.1.2.1 hs_ | exact hk_.1.1 hs_ | exact hk_.2.1 hs_ | exact hk_.2.2 hs_ | exact hk_.1 hs_ | exact hk_.2 hs_))) (fun k_ hk_ => (by first | exact hk_.1.1.2 | exact hk_.1.1.1 | exact hk_.1.1.1.2 | exact hk_.1.1.1.1 | exact hk_.1.2 | exact hk_.1.2.1 | exact hk_.1.1 | exact hk_.2.1 | exact hk_.2.2 | exact hk_.1 | exact hk_.2))); have n1_ := Aside0.mk (blk_kept z7_2_ hkp (fun hs_ => (fun e_ => (Kd.R_ne HO166.out BK163.out (by decide)) e_) hs_)); have n2_ := Aside0.mk (Kd.R_reok rfl hy0 (fun k_ e_ => HO166.out.1 k_ e_)); have n3_ := Aside0.mk (blk_kept z7_4_ hkp (fun hs_ => (fun e_ => (Kd.R_ne HO166.out BK168.out (by decide)) e_) hs_)); have n4_ := Aside0.mk (hb); clear HO161; clear BK163; clear HO166; clear BK168; clear HB; have HO161 := n0_; have BK163 := n1_; have HO166 := n2_; have BK168 := n3_; have HB := n4_; clear n0_ n1_ n2_ n3_ n4_; (try clear hb); (try clear hkp); (try clear hy0); have hcz34_0 : w33.cell? ⟨gb168, 0, none⟩ = some (.slice Ao27 t164.length co27) := (blk_cell BK168.out 0).trans rfl; have hfz34_0 := blk_frozen BK168.out 0) | ((with_reducible refine gate_callee (f := 56) rfl ?_); refine goesL_ (some 46) rfl rfl Tryd.func56 (by kernel_rfl) rfl #[.agg #[.slice Ao27 t172.length co27], .int .i64 1] rfl z7_9_ ?_; (with_reducible refine (laws_heldPuzzle.calls k _ _ t172 1 t173 _ ?side1 ?side2 A11.out).mono ?_); (case side1 => repeat (first | exact (Kd.R_reads' HO166.out).2.2 | (with_reducible refine Kd.C_alloc ?_ _) | (with_reducible refine Kd.C_drewN ?_ _) | (with_reducible refine Kd.C_drew ?_))); (case side2 => rw [show t172.length = t164.length from (Kd.R_reads' HO166.out).1.symm]; exact (Kd.R_reads' HO166.out).2.1); rintro e w35 ⟨rfl, hb⟩; refine ⟨_, rfl, ?_⟩; have n0_ := Aside0.mk (Kd.R_below z7_6_ hb); have n1_ := Aside0.mk (Kd.R_below z7_7_ hb); have n2_ := Aside0.mk (blk_below (g := gb163) (o := .cells #[.slice Ao23 t159.length co23] 30 (0, 0)) z7_2_ hb); have n3_ := Aside0.mk (blk_below (g := gb168) (o := .cells #[.slice Ao27 t164.length co27] 30 (0, 0)) z7_4_ hb); have n4_ := Aside0.mk (below_step z7_1_ hb); clear HO161; clear HO166; clear BK163; clear BK168; clear HB; have HO161 := n0_; have HO166 := n1_; have BK163 := n2_; have BK168 := n3_; have HB := n4_; clear n0_ n1_ n2_ n3_ n4_; (try clear hb); (try clear hb2); (try clear hk); (try clear hi)) | ((with_reducible refine gate_callee (f := 54) rfl ?_); refine goesL_ (some 56) rfl rfl Tryd.func54 (by kernel_rfl) rfl #[.string a0, .int .i64 a1, .int .i64 a2] rfl z7_3_ ?_; (with_reducible refine (impl_MakePuzzle.calls k a0 a1 a2 t174 t177 _ A14.out).mono ?_); rintro e w36 ⟨v175, rfl, ho0, hb⟩; refine ⟨_, rfl, ?_⟩; have n0_ := Aside0.mk (Kd.R_elder' z7_6_ (Kd.R_base ho0) hb); have n1_ := Aside0.mk (Kd.R_elder' z7_7_ (Kd.R_base ho0) hb); have n2_ := Aside0.mk (Kd.R_lower (Kd.R_new' (Kd.R_new' ho0 (Kd.R_lt z7_6_)) (Kd.R_lt z7_7_)) (below_size z7_1_)); have n3_ := Aside0.mk (blk_below (g := gb163) (o := .cells #[.slice Ao23 t159.length co23] 30 (0, 0)) z7_2_ hb); have n4_ := Aside0.mk (blk_below (g := gb168) (o := .cells #[.slice Ao27 t164.length co27] 30 (0, 0)) z7_4_ hb); have n5_ := Aside0.mk (below_step z7_1_ hb); clear HO161; clear HO166; clear BK163; clear BK168; clear HB; have HO161 := n0_; have HO166 := n1_; have HO176 := n2_; have BK163 := n3_; have BK168 := n4_; have HB := n5_; clear n0_ n1_ n2_ n3_ n4_ n5_; (try clear hb); (try clear hb2); (try clear hk); (try clear hi); (try clear ho0)) | ((with_reducible refine gate_dst (N := 13) rfl ?_); refine box_event ?hg (N := 13) ?hd (cs := #[.slice none 0 0]) (t := 30) ?hr ?_; (case hd => rfl); (case hg => rfl); (case hr => first | (go_simp; done) | (go_simp; rfl)); intro gb178 hg w37 hbox hb; have n0_ := Aside0.mk (Kd.R_below z7_6_ hb); have n1_ := Aside0.mk (Kd.R_below z7_7_ hb); have n2_ := Aside0.mk (Kd.R_below (by (with_reducible repeat (first | apply Kd.R_alloc | apply Kd.R_drewN | apply Kd.R_drew)); exact HO176.out) hb); have n3_ := Aside0.mk (blk_below (g := gb163) (o := .cells #[.slice Ao23 t159.length co23] 30 (0, 0)) z7_2_ hb); have n4_ := Aside0.mk (blk_below (g := gb168) (o := .cells #[.slice Ao27 t164.length co27] 30 (0, 0)) z7_4_ hb); have n5_ := Aside0.mk (below_step z7_1_ hb); have n6_ := Aside0.mk (hbox); have n7_ := Aside0.mk ((by rw [hg]; exact (below_size z7_1_) : w.heap.size ≤ gb178)); have n8_ := Aside0.mk ((by rw [hg]; exact (below_size z7_1_) : w.heap.size ≤ gb178)); have n9_ := Aside0.mk ((by rw [hg]; exact Nat.ne_of_lt (blk_lt (g := gb163) (o := .cells #[.slice Ao23 t159.length co23] 30 (0, 0)) z7_2_) : gb163 ≠ gb178)); have n10_ := Aside0.mk ((by rw [hg]; exact Nat.ne_of_gt (blk_lt (g := gb163) (o := .cells #[.slice Ao23 t159.length co23] 30 (0, 0)) z7_2_) : gb178 ≠ gb163)); have n11_ := Aside0.mk ((by rw [hg]; exact Nat.ne_of_lt (blk_lt (g := gb168) (o := .cells #[.slice Ao27 t164.length co27] 30 (0, 0)) z7_4_) : gb168 ≠ gb178)); have n12_ := Aside0.mk ((by rw [hg]; exact Nat.ne_of_gt (blk_lt (g := gb168) (o := .cells #[.slice Ao27 t164.length co27] 30 (0, 0)) z7_4_) : gb178 ≠ gb168)); clear HO161; clear HO166; clear HO176; clear BK163; clear BK168; clear HB; have HO161 := n0_; have HO166 := n1_; have HO176 := n2_; have BK163 := n3_; have BK168 := n4_; have HB := n5_; have BK178 := n6_; have GW178 := n7_; have GE178 := n8_; have NB163_178 := n9_; have NB178_163 := n10_; have NB168_178 := n11_; have NB178_168 := n12_; clear n0_ n1_ n2_ n3_ n4_ n5_ n6_ n7_ n8_ n9_ n10_ n11_ n12_; clear hb hbox hg; obtain ⟨Ao38, co38, eo38⟩ := Kd.R_slice HO176.out; subst eo38; have hnb39 := NB178_163.out; have hnc39 := NB163_178.out; have hnb40 := NB178_168.out; have hnc40 := NB168_178.out; have hcz41_0 : w37.cell? ⟨gb178, 0, none⟩ = some (.slice none 0 0) := (blk_cell BK178.out 0).trans rfl; have hfz41_0 := blk_frozen BK178.out 0; have hcz42_0 : w37.cell? ⟨gb163, 0, none⟩ = some (.slice Ao23 t159.length co23) := (blk_cell BK163.out 0).trans rfl; have hfz42_0 := blk_frozen BK163.out 0) | ((with_reducible refine gate_callee (f := 16) rfl ?_); refine goesL_ (some 61) rfl rfl Tryd.func16 (by kernel_rfl) rfl #[.agg #[.slice Ao38 t174.length co38], .agg #[.slice Ao23 t159.length co23]] rfl z7_3_ ?_; (with_reducible refine (laws_eqPuzzle.calls k _ _ t174 _ _ t159 true _ ?side1 ?side2 ?side3 ?side4 A15.out).mono ?_); (case side1 => refine (Kd.R_reads' (e := 96) (base := w.heap.size) (ok := fun k_ => ((True ∧ some k_ ≠ (.slice Ao23 t159.length co23 : Value).ownBlock) ∧ some k_ ≠ (.slice Ao27 t164.length co27 : Value).ownBlock)) (n := t174.length) (c := co38) ?_).2.2; exact (by (with_reducible repeat (first | apply Kd.R_alloc | apply Kd.R_drewN | apply Kd.R_drew)); exact (Kd.R_mono (Kd.R_far (p := ⟨gb178, 0, none⟩) (Kd.R_types HO176.out BK178.out (by decide)) (fun _ hk => hk.2) (.slice Ao38 t174.length co38)) (fun _ h_ => h_.1)))); (case side2 => exact (Kd.R_reads' HO176.out).2.1); (case side3 => refine (Kd.R_reads' (e := 96) (base := w.heap.size) (ok := fun k_ => (some k_ ≠ (.slice Ao27 t164.length co27 : Value).ownBlock ∧ some k_ ≠ (.slice Ao38 t174.length co38 : Value).ownBlock)) (n := t159.length) (c := co23) ?_).2.2; exact (by (with_reducible repeat (first | apply Kd.R_alloc | apply Kd.R_drewN | apply Kd.R_drew)); exact (Kd.R_mono (Kd.R_far (p := ⟨gb178, 0, none⟩) (Kd.R_types HO161.out BK178.out (by decide)) (fun _ hk => hk.2) (.slice Ao38 t174.length co38)) (fun _ h_ => h_.1)))); (case side4 => exact (Kd.R_reads' HO161.out).2.1); rintro e w43 ⟨rfl, hb⟩; refine ⟨_, rfl, ?_⟩; have n0_ := Aside0.mk (Kd.R_below (by (with_reducible repeat (first | apply Kd.R_alloc | apply Kd.R_drewN | apply Kd.R_drew)); exact (Kd.R_mono (Kd.R_far (p := ⟨gb178, 0, none⟩) (Kd.R_types HO161.out BK178.out (by decide)) (fun _ hk => hk.2) (.slice Ao38 t174.length co38)) (fun _ h_ => h_.1))) hb); have n1_ := Aside0.mk (Kd.R_below (by (with_reducible repeat (first | apply Kd.R_alloc | apply Kd.R_drewN | apply Kd.R_drew)); exact (Kd.R_mono (Kd.R_far (p := ⟨gb178, 0, none⟩) (Kd.R_types HO166.out BK178.out (by decide)) (fun _ hk => hk.2) (.slice Ao38 t174.length co38)) (fun _ h_ => h_.1))) hb); have n2_ := Aside0.mk (Kd.R_below (by (with_reducible repeat (first | apply Kd.R_alloc | apply Kd.R_drewN | apply Kd.R_drew)); exact (Kd.R_mono (Kd.R_far (p := ⟨gb178, 0, none⟩) (Kd.R_types HO176.out BK178.out (by decide)) (fun _ hk => hk.2) (.slice Ao38 t174.length co38)) (fun _ h_ => h_.1))) hb); have n3_ := Aside0.mk (blk_below (g := gb163) (o := .cells #[.slice Ao23 t159.length co23] 30 (0, 0)) (by (with_reducible repeat (first | refine blk_drewN ?_ _ | refine blk_drew ?_ | refine blk_alloc ?_ _)); refine blk_far ?_ NB163_178.out _; (with_reducible repeat (first | refine blk_drewN ?_ _ | refine blk_drew ?_ | refine blk_alloc ?_ _)); exact BK163.out) hb); have n4_ := Aside0.mk (blk_below (g := gb168) (o := .cells #[.slice Ao27 t164.length co27] 30 (0, 0)) (by (with_reducible repeat (first | refine blk_drewN ?_ _ | refine blk_drew ?_ | refine blk_alloc ?_ _)); refine blk_far ?_ NB168_178.out _; (with_reducible repeat (first | refine blk_drewN ?_ _ | refine blk_drew ?_ | refine blk_alloc ?_ _)); exact BK168.out) hb); have n5_ := Aside0.mk (blk_below (g := gb178) (o := .cells #[.slice Ao38 t174.length co38] 30 (0, 0)) (by (with_reducible repeat (first | refine blk_drewN ?_ _ | refine blk_drew ?_ | refine blk_alloc ?_ _)); refine blk_put (cs := #[.slice none 0 0]) ?_ 0 _ rfl; (with_reducible repeat (first | refine blk_drewN ?_ _ | refine blk_drew ?_ | refine blk_alloc ?_ _)); exact BK178.out) hb); have n6_ := Aside0.mk (below_step z7_8_ hb); clear HO161; clear HO166; clear HO176; clear BK163; clear BK168; clear BK178; clear HB; have HO161 := n0_; have HO166 := n1_; have HO176 := n2_; have BK163 := n3_; have BK168 := n4_; have BK178 := n5_; have HB := n6_; clear n0_ n1_ n2_ n3_ n4_ n5_ n6_; (try clear hb); (try clear hb2); (try clear hk); (try clear hi); have hcz44_0 : w43.cell? ⟨gb168, 0, none⟩ = some (.slice Ao27 t164.length co27) := (blk_cell BK168.out 0).trans rfl; have hfz44_0 := blk_frozen BK168.out 0) | ((with_reducible refine gate_callee (f := 56) rfl ?_); refine goesL_ (some 70) rfl rfl Tryd.func56 (by kernel_rfl) rfl #[.agg #[.slice Ao27 t172.length co27], .int .i64 1] rfl z7_9_ ?_; (with_reducible refine (laws_heldPuzzle.calls k _ _ t172 1 t181 _ ?side1 ?side2 A18.out).mono ?_); (case side1 => repeat (first | exact (Kd.R_reads' HO166.out).2.2 | (with_reducible refine Kd.C_alloc ?_ _) | (with_reducible refine Kd.C_drewN ?_ _) | (with_reducible refine Kd.C_drew ?_))); (case side2 => rw [show t172.length = t164.length from (Kd.R_reads' HO166.out).1.symm]; exact (Kd.R_reads' HO166.out).2.1); rintro e w45 ⟨rfl, hb⟩; refine ⟨_, rfl, ?_⟩; have n0_ := Aside0.mk (Kd.R_below z7_6_ hb); have n1_ := Aside0.mk (Kd.R_below z7_7_ hb); have n2_ := Aside0.mk (Kd.R_below (by (with_reducible repeat (first | apply Kd.R_alloc | apply Kd.R_drewN | apply Kd.R_drew)); exact HO176.out) hb); have n3_ := Aside0.mk (blk_below (g := gb163) (o := .cells #[.slice Ao23 t159.length co23] 30 (0, 0)) z7_2_ hb); have n4_ := Aside0.mk (blk_below (g := gb168) (o := .cells #[.slice Ao27 t164.length co27] 30 (0, 0)) z7_4_ hb); have n5_ := Aside0.mk (blk_below (g := gb178) (o := .cells #[.slice Ao38 t174.length co38] 30 (0, 0)) (by (with_reducible repeat (first | refine blk_drewN ?_ _ | refine blk_drew ?_ | refine blk_alloc ?_ _)); exact BK178.out) hb); have n6_ := Aside0.mk (below_step z7_8_ hb); clear HO161; clear HO166; clear HO176; clear BK163; clear BK168; clear BK178; clear HB; have HO161 := n0_; have HO166 := n1_; have HO176 := n2_; have BK163 := n3_; have BK168 := n4_; have BK178 := n5_; have HB := n6_; clear n0_ n1_ n2_ n3_ n4_ n5_ n6_; (try clear hb); (try clear hb2); (try clear hk); (try clear hi)))
     go_ret
     exact ⟨by first | rfl | (simp [errW_none, errW_some] <;> rfl) | (simp [*, errW_none, errW_some] <;> rfl), by repeat (first | (with_reducible first | exact HB.out | apply below_alloc | apply pw_below_drewN | apply below_drew1 | refine below_set ?_ GE163.out | refine below_set ?_ GE168.out | refine below_set ?_ GE178.out) | exact HB.out)⟩
   replace c16 := Bool.eq_false_iff.mpr c16
   subst c16
   rw [if_neg (show ¬ (false = true) by decide)] at H
   exact Bool.noConfusion ((Option.some.inj H).trans hr_.out)
 replace c8 := Bool.eq_false_iff.mpr c8
 subst c8
 rw [if_neg (show ¬ (false = true) by decide)] at H
 exact Bool.noConfusion ((Option.some.inj H).trans hr_.out)

/-- THE ONE PURE STATEMENT of laws_FnExactMakePuzzle: yours. -/
def laws_FnExactMakePuzzle.Pure : Prop := ∀ (a0 : ByteArray) (a1 : Int) (a2 : Int), a0.size ≤ 140737488351232 → (Lit.int .i64 a1).wf = true → (Lit.int .i64 a2).wf = true → ∃ k, laws_FnExactMakePuzzle.f k a0 a1 a2 = some true
theorem laws_FnExactMakePuzzle.walk (P : laws_FnExactMakePuzzle.Pure) (a0 : ByteArray) (a1 : Int) (a2 : Int) (w : World) (w0 : a0.size ≤ 140737488351232) (w1 : (Lit.int .i64 a1).wf = true) (w2 : (Lit.int .i64 a2).wf = true) :
 Calls Tryd.prog 10 #[.string a0, .int .i64 a1, .int .i64 a2] w fun e w' => e = .returned (.bool true) ∧ Below w.heap.size w w' := by
 obtain ⟨k, h⟩ := P a0 a1 a2 w0 w1 w2
 refine (laws_FnExactMakePuzzle.calls k a0 a1 a2 true w (Aside0.mk rfl) h).mono ?_
 rintro e w' ⟨rfl, hd⟩
 exact ⟨rfl, hd⟩

end Go.Proofs.YtjhmocngcnnfdaaDoor.PFnExactMakePuzzle

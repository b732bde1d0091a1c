-- Laid by this session's program gprint.py over the kit's print.
import Derived.Test.YtgpakeadepcgnaaDoorPFnExactSolutionsx0
import Derived.Test.YtgpakeadepcgnaaDoorPFnExactSolutionsx1
import Derived.Test.YtgpakeadepcgnaaDoorPFnExactSolutionsx2
import Derived.Test.YtgpakeadepcgnaaDoorPFnExactSolutionsx4
import Derived.Test.YtgpakeadepcgnaaDoorPFnExactSolutionsx7
import Derived.Test.YtgpakeadepcgnaaDoorPFnExactSolutionsx8
namespace Go.Proofs.YtgpakeadepcgnaaDoor.PFnExactSolutions
open Go.RowKit Go.Proofs.YtgpakeadepcgnaaDoorW.PrintWords Go.Proofs.YtgpakeadepcgnaaDoorW.PrintLast Go.Proofs.YtgpakeadepcgnaaDoorW.PrintMore
attribute [local go_sem] max2_int min2_int max_two min_two max_three min_three max_four min_four   -- for this text's walks alone
set_option linter.unusedVariables false
set_option linter.unusedSimpArgs false
theorem z9_0_ {p : Prop} (h : p := by first | exact hk_.1.1.2 | exact hk_.1.1.1 | exact hk_.1.1.1.2 | exact hk_.1.1.1.1 | exact hk_.1.2 | exact hk_.1.2.1 | exact hk_.1.1 | exact hk_.2.1 | exact hk_.2.2 | exact hk_.1 | exact hk_.2) : p := h
theorem z9_1_ {p : Prop} (h : p := by repeat (first | (with_reducible first | exact HB.out | apply below_alloc | apply pw_below_drewN | apply below_drew1 | refine below_set ?_ GE207.out | refine below_set ?_ GE219.out) | exact HB.out)) : p := h
theorem z9_2_ {p : Prop} (h : p := by (with_reducible repeat (first | refine blk_drewN ?_ _ | refine blk_drew ?_ | refine blk_alloc ?_ _)); exact BK207.out) : p := h
theorem z9_3_ {p : Prop} (h : p := by (try simp only [List.map_toArray, List.map_cons, List.map_nil]); first | done | rfl | (simp only [List.length_drop, List.length_take]; rfl)) : p := h
theorem z9_4_ {p : Prop} (h : p := by repeat (first | (with_reducible first | exact HB.out | apply below_alloc | apply pw_below_drewN | apply below_drew1 | refine below_set ?_ GE207.out) | exact HB.out)) : p := h
theorem z9_5_ {p : Prop} (h : p := by first | exact hk_ hs_ | exact hk_.1.1.2 hs_ | exact hk_.1.1.1 hs_ | exact hk_.1.1.1.2 hs_ | exact hk_.1.2 hs_ | exact hk_.1.2.1 hs_ | exact hk_.1.1 hs_ | exact hk_.2.1 hs_ | exact hk_.2.2 hs_ | exact hk_.1 hs_ | exact hk_.2 hs_) : p := h
theorem z9_6_ {p : Prop} (h : p := by (with_reducible repeat (first | apply Kd.R_alloc | apply Kd.R_drewN | apply Kd.R_drew)); exact HO211.out) : p := h
theorem z9_7_ {p : Prop} (h : p := by (with_reducible repeat (first | refine blk_drewN ?_ _ | refine blk_drew ?_ | refine blk_alloc ?_ _)); exact BK219.out) : p := h
theorem z9_8_ {p : Prop} (h : p := by (with_reducible repeat (first | apply Kd.R_alloc | apply Kd.R_drewN | apply Kd.R_drew)); exact HO214.out) : p := h
theorem z9_9_ {p : Prop} (h : p := by (with_reducible repeat (first | apply Kd.R_alloc | apply Kd.R_drewN | apply Kd.R_drew)); exact HO218.out) : p := h
theorem z9_10_ {p : Prop} (h : p := by repeat (first | (with_reducible first | exact HB.out | apply below_alloc | apply pw_below_drewN | apply below_drew1) | exact HB.out)) : p := h
theorem z9_11_ {p : Prop} (h : p := by (with_reducible repeat (first | apply Kd.R_alloc | apply Kd.R_drewN | apply Kd.R_drew)); exact HO222.out) : p := h
theorem z9_12_ {p : Prop} (h : p := by (with_reducible repeat (first | apply Kd.R_alloc | apply Kd.R_drewN | apply Kd.R_drew)); exact HO228.out) : p := h
theorem z9_13_ {p : Prop} (h : p := by (try simp only [List.map_toArray, List.map_cons, List.map_nil]); first | done | (rw [show t235.length = t220.length from (Kd.R_reads' HO222.out).1.symm] <;> rfl) | rfl | (simp only [List.length_drop, List.length_take]; rfl)) : p := h

/-! ### laws_FnExactSolutions: function 11 -/
def laws_FnExactSolutions.f (k : Nat) (l0_0 : List (S23)) : Option (Bool) := (laws_szPuzzle.f l0_0 1048576).bind fun t208 => (if t208 < 0 then (some true) else ((laws_toPuzzle.f k l0_0).bind fun t209 => ((spec_Solutions.f k t209).bind fun bt212 => ((laws_toPuzzle.f k l0_0).bind fun t216 => ((impl_Solutions.f k t216).bind fun bt220 => ((laws_eqStringS.f k bt220.1 bt212.1).bind fun t225 => (if t225 = true then (if (bt220.2 != bt212.2) = true then (some false) else ((laws_toPuzzle.f k l0_0).bind fun t226 => ((laws_eqPuzzle.f k t216 t226).bind fun t229 => (if t229 = true then ((laws_markPuzzle.f k t216 1).bind fun bt230 => (if bt230.1 < 0 then (some false) else ((laws_eqStringS.f k bt220.1 bt212.1).bind fun t233 => (if t233 = true then ((laws_markStringS.f k bt220.1 1).bind fun bt234 => ((laws_heldStringS.f k bt234.2 1).bind fun t236 => (if t236 < 0 then (some false) else (if t236 = bt234.1 then ((laws_toPuzzle.f k l0_0).bind fun t237 => ((impl_Solutions.f k t237).bind fun bt240 => ((laws_eqStringS.f k bt240.1 bt212.1).bind fun t245 => (if t245 = true then (if (bt240.2 != bt212.2) = true then (some false) else ((laws_heldStringS.f k bt234.2 1).bind fun t246 => (if t246 < 0 then (some false) else (if t246 = bt234.1 then (some true) else (some false))))) else (some false))))) else (some false))))) else (some false))))) else (some false))))) else (some false))))))))
set_option maxHeartbeats 8000000 in
set_option maxRecDepth 100000 in
theorem laws_FnExactSolutions.calls (k : Nat) (A0_0 : Option Addr) (c0_0 : Nat) (l0_0 : List (S23)) (r : Bool) (w : World) (hr0_0 : Kd.C k23 w A0_0 l0_0.length l0_0) (hc0_0 : l0_0.length ≤ c0_0) (hr_ : Aside0 (r = true)) (h : laws_FnExactSolutions.f k l0_0 = some r) :
 Calls Tryd.prog 11 #[.agg #[.slice A0_0 l0_0.length c0_0]] w fun e w' => e = .returned (.bool r) ∧ Below w.heap.size w w' := by
 have hu31 := Tryd.underlying31
 have hu37 := Tryd.underlying37
 have HR0_0 := Aside0.mk hr0_0
 have HC0_0 := Aside0.mk hc0_0
 clear hr0_0 hc0_0
 have HB := Aside0.mk (Below.refl w.heap.size w)
 have H : ((laws_szPuzzle.f l0_0 1048576).bind fun t208 => (if t208 < 0 then (some true) else ((laws_toPuzzle.f k l0_0).bind fun t209 => ((spec_Solutions.f k t209).bind fun bt212 => ((laws_toPuzzle.f k l0_0).bind fun t216 => ((impl_Solutions.f k t216).bind fun bt220 => ((laws_eqStringS.f k bt220.1 bt212.1).bind fun t225 => (if t225 = true then (if (bt220.2 != bt212.2) = true then (some false) else ((laws_toPuzzle.f k l0_0).bind fun t226 => ((laws_eqPuzzle.f k t216 t226).bind fun t229 => (if t229 = true then ((laws_markPuzzle.f k t216 1).bind fun bt230 => (if bt230.1 < 0 then (some false) else ((laws_eqStringS.f k bt220.1 bt212.1).bind fun t233 => (if t233 = true then ((laws_markStringS.f k bt220.1 1).bind fun bt234 => ((laws_heldStringS.f k bt234.2 1).bind fun t236 => (if t236 < 0 then (some false) else (if t236 = bt234.1 then ((laws_toPuzzle.f k l0_0).bind fun t237 => ((impl_Solutions.f k t237).bind fun bt240 => ((laws_eqStringS.f k bt240.1 bt212.1).bind fun t245 => (if t245 = true then (if (bt240.2 != bt212.2) = true then (some false) else ((laws_heldStringS.f k bt234.2 1).bind fun t246 => (if t246 < 0 then (some false) else (if t246 = bt234.1 then (some true) else (some false))))) else (some false))))) else (some false))))) else (some false))))) else (some false))))) else (some false))))))))) = some r := h
 clear h
 replace H := Option.bind_eq_some_iff.mp H
 obtain ⟨t208, A20, H⟩ := H
 have A2 := Aside0.mk A20
 clear A20
 by_cases c3 : t208 < 0
 · rw [if_pos c3] at H
   have c3b0 : decide (t208 < 0) = true := decide_eq_true c3
   clear c3
   obtain rfl := Option.some.inj H
   go_enter Tryd.func11, Tryd.ntmps11
   go_wp2_with (first | ((with_reducible refine gate_dst (N := 1) rfl ?_); refine box_event ?hg (N := 1) ?hd (cs := #[.slice A0_0 l0_0.length c0_0]) (t := 31) ?hr ?_; (case hd => rfl); (case hg => rfl); (case hr => first | (go_simp; done) | (go_simp; rfl)); intro gb207 hg w4 hbox hb; have n0_ := Aside0.mk (below_step z9_10_ hb); have n1_ := Aside0.mk (hbox); have n2_ := Aside0.mk ((by rw [hg]; exact (below_size z9_10_) : w.heap.size ≤ gb207)); have n3_ := Aside0.mk ((by rw [hg]; exact (below_size z9_10_) : w.heap.size ≤ gb207)); clear HB; have HB := n0_; have BK207 := n1_; have GW207 := n2_; have GE207 := n3_; clear n0_ n1_ n2_ n3_; clear hb hbox hg; have hcz5_0 : w4.cell? ⟨gb207, 0, none⟩ = some (.slice A0_0 l0_0.length c0_0) := (blk_cell BK207.out 0).trans rfl; have hfz5_0 := blk_frozen BK207.out 0) | ((with_reducible refine gate_callee (f := 18) rfl ?_); refine goesL_ (some 16) rfl rfl Tryd.func18 (by kernel_rfl) rfl #[.agg #[.slice A0_0 l0_0.length c0_0], .int .i64 1048576] rfl z9_3_ ?_; (with_reducible refine (laws_szPuzzle.calls _ _ l0_0 1048576 t208 _ ?side1 ?side2 A2.out).mono ?_); (case side1 => repeat (first | exact (Kd.C_below HR0_0.out HB.out) | (with_reducible refine Kd.C_alloc ?_ _) | (with_reducible refine Kd.C_drewN ?_ _) | (with_reducible refine Kd.C_drew ?_))); (case side2 => exact HC0_0.out); rintro e w6 ⟨rfl, hb⟩; refine ⟨_, rfl, ?_⟩; have n0_ := Aside0.mk (blk_below (g := gb207) (o := .cells #[.slice A0_0 l0_0.length c0_0] 31 (0, 0)) z9_2_ hb); have n1_ := Aside0.mk (below_step z9_4_ hb); clear BK207; clear HB; have BK207 := n0_; have HB := n1_; clear n0_ n1_; (try clear hb); (try clear hb2); (try clear hk); (try clear hi)))
   go_ret
   exact ⟨by first | rfl | (simp [errW_none, errW_some] <;> rfl) | (simp [*, errW_none, errW_some] <;> rfl), by repeat (first | (with_reducible first | exact HB.out | apply below_alloc | apply pw_below_drewN | apply below_drew1 | refine below_set ?_ GE207.out) | exact HB.out)⟩
 rw [if_neg c3] at H
 have c3b0 : decide (t208 < 0) = false := decide_eq_false c3
 clear c3
 replace H := Option.bind_eq_some_iff.mp H
 obtain ⟨t209, A70, H⟩ := H
 have A7 := Aside0.mk A70
 clear A70
 replace H := Option.bind_eq_some_iff.mp H
 obtain ⟨⟨t212, t215⟩, A80, H⟩ := H
 dsimp only at H
 have A8 := Aside0.mk A80
 clear A80
 replace H := Option.bind_eq_some_iff.mp H
 obtain ⟨t216, A90, H⟩ := H
 have A9 := Aside0.mk A90
 clear A90
 replace H := Option.bind_eq_some_iff.mp H
 obtain ⟨⟨t220, t223⟩, A100, H⟩ := H
 dsimp only at H
 have A10 := Aside0.mk A100
 clear A100
 replace H := Option.bind_eq_some_iff.mp H
 obtain ⟨t225, A110, H⟩ := H
 have A11 := Aside0.mk A110
 clear A110
 by_cases c12 : t225 = true
 · subst c12
   rw [if_pos rfl] at H
   by_cases c13 : (t223 != t215) = true
   · exact dead_ (if_pos c13) H hr_
   rw [if_neg c13] at H
   have c13b0 : (t223 != t215) = false := by simpa using c13
   (try (have c13b1 : decide (t223 = t215) = true := by simpa using c13))
   (try (have c13b2 : (t223 == t215) = true := by simpa using c13))
   clear c13
   replace H := Option.bind_eq_some_iff.mp H
   obtain ⟨t226, A140, H⟩ := H
   have A14 := Aside0.mk A140
   clear A140
   replace H := Option.bind_eq_some_iff.mp H
   obtain ⟨t229, A150, H⟩ := H
   have A15 := Aside0.mk A150
   clear A150
   by_cases c16 : t229 = true
   · subst c16
     rw [if_pos rfl] at H
     replace H := Option.bind_eq_some_iff.mp H
     obtain ⟨⟨t230, t231⟩, A170, H⟩ := H
     dsimp only at H
     have A17 := Aside0.mk A170
     clear A170
     by_cases c18 : t230 < 0
     · exact dead_ (if_pos c18) H hr_
     rw [if_neg c18] at H
     have c18b0 : decide (t230 < 0) = false := decide_eq_false c18
     clear c18
     replace H := Option.bind_eq_some_iff.mp H
     obtain ⟨t233, A190, H⟩ := H
     have A19 := Aside0.mk A190
     clear A190
     by_cases c20 : t233 = true
     · subst c20
       rw [if_pos rfl] at H
       replace H := Option.bind_eq_some_iff.mp H
       obtain ⟨⟨t234, t235⟩, A210, H⟩ := H
       dsimp only at H
       have A21 := Aside0.mk A210
       clear A210
       replace H := Option.bind_eq_some_iff.mp H
       obtain ⟨t236, A220, H⟩ := H
       have A22 := Aside0.mk A220
       clear A220
       by_cases c23 : t236 < 0
       · exact dead_ (if_pos c23) H hr_
       rw [if_neg c23] at H
       have c23b0 : decide (t236 < 0) = false := decide_eq_false c23
       clear c23
       by_cases c24 : t236 = t234
       rotate_left
       · exact dead_ (if_neg c24) H hr_
       rw [if_pos c24] at H
       have c24b0 : (t236 == t234) = true := beq_iff_eq.mpr c24
       have c24b1 : (t236 != t234) = false := bne_eq_false_iff_eq.mpr c24
       clear c24
       replace H := Option.bind_eq_some_iff.mp H
       obtain ⟨t237, A250, H⟩ := H
       have A25 := Aside0.mk A250
       clear A250
       replace H := Option.bind_eq_some_iff.mp H
       obtain ⟨⟨t240, t243⟩, A260, H⟩ := H
       dsimp only at H
       have A26 := Aside0.mk A260
       clear A260
       replace H := Option.bind_eq_some_iff.mp H
       obtain ⟨t245, A270, H⟩ := H
       have A27 := Aside0.mk A270
       clear A270
       by_cases c28 : t245 = true
       · subst c28
         rw [if_pos rfl] at H
         by_cases c29 : (t243 != t215) = true
         · exact dead_ (if_pos c29) H hr_
         rw [if_neg c29] at H
         have c29b0 : (t243 != t215) = false := by simpa using c29
         (try (have c29b1 : decide (t243 = t215) = true := by simpa using c29))
         (try (have c29b2 : (t243 == t215) = true := by simpa using c29))
         clear c29
         replace H := Option.bind_eq_some_iff.mp H
         obtain ⟨t246, A300, H⟩ := H
         have A30 := Aside0.mk A300
         clear A300
         by_cases c31 : t246 < 0
         · exact dead_ (if_pos c31) H hr_
         rw [if_neg c31] at H
         have c31b0 : decide (t246 < 0) = false := decide_eq_false c31
         clear c31
         by_cases c32 : t246 = t234
         rotate_left
         · exact dead_ (if_neg c32) H hr_
         rw [if_pos c32] at H
         have c32b0 : (t246 == t234) = true := beq_iff_eq.mpr c32
         have c32b1 : (t246 != t234) = false := bne_eq_false_iff_eq.mpr c32
         clear c32
         obtain rfl := Option.some.inj H
         go_enter Tryd.func11, Tryd.ntmps11
         try go_wp2_with (first | ((with_reducible refine gate_dst (N := 1) rfl ?_); refine box_event ?hg (N := 1) ?hd (cs := #[.slice A0_0 l0_0.length c0_0]) (t := 31) ?hr ?_; (case hd => rfl); (case hg => rfl); (case hr => first | (go_simp; done) | (go_simp; rfl)); intro gb207 hg w33 hbox hb; have n0_ := Aside0.mk (below_step z9_10_ hb); have n1_ := Aside0.mk (hbox); have n2_ := Aside0.mk ((by rw [hg]; exact (below_size z9_10_) : w.heap.size ≤ gb207)); have n3_ := Aside0.mk ((by rw [hg]; exact (below_size z9_10_) : w.heap.size ≤ gb207)); clear HB; have HB := n0_; have BK207 := n1_; have GW207 := n2_; have GE207 := n3_; clear n0_ n1_ n2_ n3_; clear hb hbox hg; have hcz34_0 : w33.cell? ⟨gb207, 0, none⟩ = some (.slice A0_0 l0_0.length c0_0) := (blk_cell BK207.out 0).trans rfl; have hfz34_0 := blk_frozen BK207.out 0) | ((with_reducible refine gate_callee (f := 18) rfl ?_); refine goesL_ (some 16) rfl rfl Tryd.func18 (by kernel_rfl) rfl #[.agg #[.slice A0_0 l0_0.length c0_0], .int .i64 1048576] rfl z9_3_ ?_; (with_reducible refine (laws_szPuzzle.calls _ _ l0_0 1048576 t208 _ ?side1 ?side2 A2.out).mono ?_); (case side1 => repeat (first | exact (Kd.C_below HR0_0.out HB.out) | (with_reducible refine Kd.C_alloc ?_ _) | (with_reducible refine Kd.C_drewN ?_ _) | (with_reducible refine Kd.C_drew ?_))); (case side2 => exact HC0_0.out); rintro e w35 ⟨rfl, hb⟩; refine ⟨_, rfl, ?_⟩; have n0_ := Aside0.mk (blk_below (g := gb207) (o := .cells #[.slice A0_0 l0_0.length c0_0] 31 (0, 0)) z9_2_ hb); have n1_ := Aside0.mk (below_step z9_4_ hb); clear BK207; clear HB; have BK207 := n0_; have HB := n1_; clear n0_ n1_; (try clear hb); (try clear hb2); (try clear hk); (try clear hi); have hcz36_0 : w35.cell? ⟨gb207, 0, none⟩ = some (.slice A0_0 l0_0.length c0_0) := (blk_cell BK207.out 0).trans rfl; have hfz36_0 := blk_frozen BK207.out 0) | ((with_reducible refine gate_callee (f := 20) rfl ?_); refine goesL_ (some 21) rfl rfl Tryd.func20 (by kernel_rfl) rfl #[.agg #[.slice A0_0 l0_0.length c0_0]] rfl z9_3_ ?_; (with_reducible refine (laws_toPuzzle.calls k _ _ l0_0 t209 _ ?side1 ?side2 A7.out).mono ?_); (case side1 => repeat (first | exact (Kd.C_below HR0_0.out HB.out) | (with_reducible refine Kd.C_alloc ?_ _) | (with_reducible refine Kd.C_drewN ?_ _) | (with_reducible refine Kd.C_drew ?_))); (case side2 => exact HC0_0.out); rintro e w37 ⟨v210, rfl, ho0, hb⟩; refine ⟨_, rfl, ?_⟩; have n0_ := Aside0.mk (Kd.R_lower ho0 (below_size z9_4_)); have n1_ := Aside0.mk (blk_below (g := gb207) (o := .cells #[.slice A0_0 l0_0.length c0_0] 31 (0, 0)) z9_2_ hb); have n2_ := Aside0.mk (below_step z9_4_ hb); clear BK207; clear HB; have HO211 := n0_; have BK207 := n1_; have HB := n2_; clear n0_ n1_ n2_; (try clear hb); (try clear hb2); (try clear hk); (try clear hi); (try clear ho0); obtain ⟨Ao38, co38, eo38⟩ := Kd.R_slice HO211.out; subst eo38) | ((with_reducible refine gate_callee (f := 40) rfl ?_); refine goesL_ (some 22) rfl rfl Tryd.func40 (by kernel_rfl) rfl #[.agg #[.slice Ao38 t209.length co38]] rfl z9_3_ ?_; (with_reducible refine (spec_Solutions.calls k _ _ t209 t212 t215 _ ?side1 ?side2 A8.out).mono ?_); (case side1 => repeat (first | exact (Kd.R_reads' HO211.out).2.2 | (with_reducible refine Kd.C_alloc ?_ _) | (with_reducible refine Kd.C_drewN ?_ _) | (with_reducible refine Kd.C_drew ?_))); (case side2 => exact (Kd.R_reads' HO211.out).2.1); rintro e w39 ⟨v213, rfl, ho0, hb⟩; refine ⟨_, rfl, ?_⟩; have n0_ := Aside0.mk (Kd.R_below z9_6_ hb); have n1_ := Aside0.mk (Kd.R_lower ho0 (below_size z9_4_)); have n2_ := Aside0.mk (blk_below (g := gb207) (o := .cells #[.slice A0_0 l0_0.length c0_0] 31 (0, 0)) z9_2_ hb); have n3_ := Aside0.mk (below_step z9_4_ hb); clear HO211; clear BK207; clear HB; have HO211 := n0_; have HO214 := n1_; have BK207 := n2_; have HB := n3_; clear n0_ n1_ n2_ n3_; (try clear hb); (try clear hb2); (try clear hk); (try clear hi); (try clear ho0); have hcz40_0 : w39.cell? ⟨gb207, 0, none⟩ = some (.slice A0_0 l0_0.length c0_0) := (blk_cell BK207.out 0).trans rfl; have hfz40_0 := blk_frozen BK207.out 0) | ((with_reducible refine gate_callee (f := 20) rfl ?_); refine goesL_ (some 26) rfl rfl Tryd.func20 (by kernel_rfl) rfl #[.agg #[.slice A0_0 l0_0.length c0_0]] rfl z9_3_ ?_; (with_reducible refine (laws_toPuzzle.calls k _ _ l0_0 t216 _ ?side1 ?side2 A9.out).mono ?_); (case side1 => repeat (first | exact (Kd.C_below HR0_0.out HB.out) | (with_reducible refine Kd.C_alloc ?_ _) | (with_reducible refine Kd.C_drewN ?_ _) | (with_reducible refine Kd.C_drew ?_))); (case side2 => exact HC0_0.out); rintro e w41 ⟨v217, rfl, ho0, hb⟩; refine ⟨_, rfl, ?_⟩; have n0_ := Aside0.mk (Kd.R_elder' z9_6_ (Kd.R_base ho0) hb); have n1_ := Aside0.mk (Kd.R_below z9_8_ hb); have n2_ := Aside0.mk (Kd.R_lower (Kd.R_new' ho0 (Kd.R_lt z9_6_)) (below_size z9_4_)); have n3_ := Aside0.mk (blk_below (g := gb207) (o := .cells #[.slice A0_0 l0_0.length c0_0] 31 (0, 0)) z9_2_ hb); have n4_ := Aside0.mk (below_step z9_4_ hb); clear HO211; clear HO214; clear BK207; clear HB; have HO211 := n0_; have HO214 := n1_; have HO218 := n2_; have BK207 := n3_; have HB := n4_; clear n0_ n1_ n2_ n3_ n4_; (try clear hb); (try clear hb2); (try clear hk); (try clear hi); (try clear ho0)) | ((with_reducible refine gate_dst (N := 6) rfl ?_); refine box_event ?hg (N := 6) ?hd (cs := #[.slice none 0 0]) (t := 37) ?hr ?_; (case hd => rfl); (case hg => rfl); (case hr => first | (go_simp; done) | (go_simp; rfl)); intro gb219 hg w42 hbox hb; have n0_ := Aside0.mk (Kd.R_below z9_6_ hb); have n1_ := Aside0.mk (Kd.R_below z9_8_ hb); have n2_ := Aside0.mk (Kd.R_below z9_9_ hb); have n3_ := Aside0.mk (blk_below (g := gb207) (o := .cells #[.slice A0_0 l0_0.length c0_0] 31 (0, 0)) z9_2_ hb); have n4_ := Aside0.mk (below_step z9_4_ hb); have n5_ := Aside0.mk (hbox); have n6_ := Aside0.mk ((by rw [hg]; exact (below_size z9_4_) : w.heap.size ≤ gb219)); have n7_ := Aside0.mk ((by rw [hg]; exact (below_size z9_4_) : w.heap.size ≤ gb219)); have n8_ := Aside0.mk ((by rw [hg]; exact Nat.ne_of_lt (blk_lt (g := gb207) (o := .cells #[.slice A0_0 l0_0.length c0_0] 31 (0, 0)) z9_2_) : gb207 ≠ gb219)); have n9_ := Aside0.mk ((by rw [hg]; exact Nat.ne_of_gt (blk_lt (g := gb207) (o := .cells #[.slice A0_0 l0_0.length c0_0] 31 (0, 0)) z9_2_) : gb219 ≠ gb207)); clear HO211; clear HO214; clear HO218; clear BK207; clear HB; have HO211 := n0_; have HO214 := n1_; have HO218 := n2_; have BK207 := n3_; have HB := n4_; have BK219 := n5_; have GW219 := n6_; have GE219 := n7_; have NB207_219 := n8_; have NB219_207 := n9_; clear n0_ n1_ n2_ n3_ n4_ n5_ n6_ n7_ n8_ n9_; clear hb hbox hg; obtain ⟨Ao43, co43, eo43⟩ := Kd.R_slice HO218.out; subst eo43; have hnb44 := NB219_207.out; have hnc44 := NB207_219.out; have hcz45_0 : w42.cell? ⟨gb219, 0, none⟩ = some (.slice none 0 0) := (blk_cell BK219.out 0).trans rfl; have hfz45_0 := blk_frozen BK219.out 0) | ((with_reducible refine gate_callee (f := 41) rfl ?_); refine goesL_ (some 29) rfl rfl Tryd.func41 (by kernel_rfl) rfl #[.agg #[.slice Ao43 t216.length co43]] rfl z9_3_ ?_; (with_reducible refine (impl_Solutions.calls k _ _ t216 t220 t223 _ ?side1 ?side2 A10.out).mono ?_); (case side1 => refine (Kd.R_reads' (e := 26) (base := w.heap.size) (ok := fun k_ => (True ∧ some k_ ≠ (.slice Ao38 t209.length co38 : Value).ownBlock)) (n := t216.length) (c := co43) ?_).2.2; exact (by (with_reducible repeat (first | apply Kd.R_alloc | apply Kd.R_drewN | apply Kd.R_drew)); exact (Kd.R_mono (Kd.R_far (p := ⟨gb219, 0, none⟩) (Kd.R_types HO218.out BK219.out (by decide)) (fun _ hk => hk.2) (.slice Ao43 t216.length co43)) (fun _ h_ => h_.1)))); (case side2 => exact (Kd.R_reads' HO218.out).2.1); rintro e w46 ⟨v221, rfl, ho0, hb⟩; refine ⟨_, rfl, ?_⟩; have n0_ := Aside0.mk (Kd.R_below (by (with_reducible repeat (first | apply Kd.R_alloc | apply Kd.R_drewN | apply Kd.R_drew)); exact (Kd.R_mono (Kd.R_far (p := ⟨gb219, 0, none⟩) (Kd.R_types HO211.out BK219.out (by decide)) (fun _ hk => hk.2) (.slice Ao43 t216.length co43)) (fun _ h_ => h_.1))) hb); have n1_ := Aside0.mk (Kd.R_elder' (by (with_reducible repeat (first | apply Kd.R_alloc | apply Kd.R_drewN | apply Kd.R_drew)); exact (Kd.R_mono (Kd.R_far (p := ⟨gb219, 0, none⟩) (Kd.R_types HO214.out BK219.out (by decide)) (fun _ hk => hk.2) (.slice Ao43 t216.length co43)) (fun _ h_ => h_.1))) (Kd.R_base ho0) hb); have n2_ := Aside0.mk (Kd.R_below (by (with_reducible repeat (first | apply Kd.R_alloc | apply Kd.R_drewN | apply Kd.R_drew)); exact (Kd.R_mono (Kd.R_far (p := ⟨gb219, 0, none⟩) (Kd.R_types HO218.out BK219.out (by decide)) (fun _ hk => hk.2) (.slice Ao43 t216.length co43)) (fun _ h_ => h_.1))) hb); have n3_ := Aside0.mk (Kd.R_lower (Kd.R_new' ho0 (Kd.R_lt (by (with_reducible repeat (first | apply Kd.R_alloc | apply Kd.R_drewN | apply Kd.R_drew)); exact (Kd.R_mono (Kd.R_far (p := ⟨gb219, 0, none⟩) (Kd.R_types HO214.out BK219.out (by decide)) (fun _ hk => hk.2) (.slice Ao43 t216.length co43)) (fun _ h_ => h_.1))))) (below_size z9_1_)); have n4_ := Aside0.mk (blk_below (g := gb207) (o := .cells #[.slice A0_0 l0_0.length c0_0] 31 (0, 0)) (by (with_reducible repeat (first | refine blk_drewN ?_ _ | refine blk_drew ?_ | refine blk_alloc ?_ _)); refine blk_far ?_ NB207_219.out _; (with_reducible repeat (first | refine blk_drewN ?_ _ | refine blk_drew ?_ | refine blk_alloc ?_ _)); exact BK207.out) hb); have n5_ := Aside0.mk (blk_below (g := gb219) (o := .cells #[.slice Ao43 t216.length co43] 37 (0, 0)) (by (with_reducible repeat (first | refine blk_drewN ?_ _ | refine blk_drew ?_ | refine blk_alloc ?_ _)); refine blk_put (cs := #[.slice none 0 0]) ?_ 0 _ rfl; (with_reducible repeat (first | refine blk_drewN ?_ _ | refine blk_drew ?_ | refine blk_alloc ?_ _)); exact BK219.out) hb); have n6_ := Aside0.mk (below_step z9_1_ hb); clear HO211; clear HO214; clear HO218; clear BK207; clear BK219; clear HB; have HO211 := n0_; have HO214 := n1_; have HO218 := n2_; have HO222 := n3_; have BK207 := n4_; have BK219 := n5_; have HB := n6_; clear n0_ n1_ n2_ n3_ n4_ n5_ n6_; (try clear hb); (try clear hb2); (try clear hk); (try clear hi); (try clear ho0); obtain ⟨Ao47, co47, eo47⟩ := Kd.R_slice HO222.out; subst eo47; obtain ⟨Ao48, co48, eo48⟩ := Kd.R_slice HO214.out; subst eo48) | ((with_reducible refine gate_callee (f := 42) rfl ?_); refine goesL_ (some 34) rfl rfl Tryd.func42 (by kernel_rfl) rfl #[.slice Ao47 t220.length co47, .slice Ao48 t212.length co48] rfl z9_3_ ?_; (with_reducible refine (laws_eqStringS.calls k _ _ t220 _ _ t212 true _ ?side1 ?side2 ?side3 ?side4 A11.out).mono ?_); (case side1 => repeat (first | exact (Kd.R_reads' HO222.out).2.2 | (with_reducible refine Kd.C_alloc ?_ _) | (with_reducible refine Kd.C_drewN ?_ _) | (with_reducible refine Kd.C_drew ?_))); (case side2 => exact (Kd.R_reads' HO222.out).2.1); (case side3 => repeat (first | exact (Kd.R_reads' HO214.out).2.2 | (with_reducible refine Kd.C_alloc ?_ _) | (with_reducible refine Kd.C_drewN ?_ _) | (with_reducible refine Kd.C_drew ?_))); (case side4 => exact (Kd.R_reads' HO214.out).2.1); rintro e w' ⟨rfl, ⟨nd, rfl⟩⟩; refine ⟨_, rfl, ?_⟩))
         (try (rw [drewN_self w46]; generalize hq_ : World.drewN w46 _ = w46; have n0_ : Aside0 (Kd.R k26 26 w46 w.heap.size (fun k_ => some k_ ≠ (.slice Ao43 t216.length co43 : Value).ownBlock) (.slice Ao38 t209.length co38) t209) := ⟨by rw [← hq_]; exact (by (with_reducible repeat (first | apply Kd.R_alloc | apply Kd.R_drewN | apply Kd.R_drew)); exact Kd.R_mono HO211.out (fun _ hk => hk.2))⟩; have n1_ : Aside0 (Kd.R Kd.string 9 w46 w.heap.size (fun k_ => some k_ ≠ (.slice Ao47 t220.length co47 : Value).ownBlock) (.slice Ao48 t212.length co48) t212) := ⟨by rw [← hq_]; exact (by (with_reducible repeat (first | apply Kd.R_alloc | apply Kd.R_drewN | apply Kd.R_drew)); exact Kd.R_mono HO214.out (fun _ hk => hk.2))⟩; have n2_ : Aside0 (Kd.R k26 26 w46 w.heap.size (fun k_ => some k_ ≠ (.slice Ao38 t209.length co38 : Value).ownBlock) (.slice Ao43 t216.length co43) t216) := ⟨by rw [← hq_]; exact (by (with_reducible repeat (first | apply Kd.R_alloc | apply Kd.R_drewN | apply Kd.R_drew)); exact Kd.R_mono HO218.out (fun _ hk => hk.2))⟩; have n3_ : Aside0 (Kd.R Kd.string 9 w46 w.heap.size (fun k_ => some k_ ≠ (.slice Ao48 t212.length co48 : Value).ownBlock) (.slice Ao47 t220.length co47) t220) := ⟨by rw [← hq_]; exact (by (with_reducible repeat (first | apply Kd.R_alloc | apply Kd.R_drewN | apply Kd.R_drew)); exact Kd.R_mono HO222.out (fun _ hk => hk.2))⟩; have n4_ : Aside0 (w46.heap[gb207]? = some (.cells #[.slice A0_0 l0_0.length c0_0] 31 (0, 0))) := ⟨by rw [← hq_]; exact z9_2_⟩; have n5_ : Aside0 (w46.heap[gb219]? = some (.cells #[.slice Ao43 t216.length co43] 37 (0, 0))) := ⟨by rw [← hq_]; exact z9_7_⟩; have n6_ : Aside0 (Below w.heap.size w w46) := ⟨by rw [← hq_]; exact z9_1_⟩; clear HO211 HO214 HO218 HO222 BK207 BK219 HB hq_; have HO211 := n0_; have HO214 := n1_; have HO218 := n2_; have HO222 := n3_; have BK207 := n4_; have BK219 := n5_; have HB := n6_; clear n0_ n1_ n2_ n3_ n4_ n5_ n6_))
         have n0_ := Aside0.mk (Kd.R_drew HO211.out)
         have n1_ := Aside0.mk (Kd.R_drew HO214.out)
         have n2_ := Aside0.mk (Kd.R_drew HO218.out)
         have n3_ := Aside0.mk (Kd.R_drew HO222.out)
         have n4_ := Aside0.mk (blk_drew BK207.out)
         have n5_ := Aside0.mk (blk_drew BK219.out)
         have n6_ := Aside0.mk (below_drew1 HB.out)
         clear HO211
         clear HO214
         clear HO218
         clear HO222
         clear BK207
         clear BK219
         clear HB
         have HO211 := n0_
         have HO214 := n1_
         have HO218 := n2_
         have HO222 := n3_
         have BK207 := n4_
         have BK219 := n5_
         have HB := n6_
         clear n0_ n1_ n2_ n3_ n4_ n5_ n6_
         refine start_ (n := 5) (S := fun w' => w'.cell? ⟨gb219, 0, none⟩ = some (.slice Ao43 t216.length co43) ∧ w'.cell? ⟨gb207, 0, none⟩ = some (.slice A0_0 l0_0.length c0_0)) (ds := []) #[false, false, false, false, false] (by kernel_rfl) rfl rfl ⟨(blk_cell BK219.out 0).trans rfl, (blk_cell BK207.out 0).trans rfl⟩ (fun hHeld => ?_)
         generalize w46.drew = w49 at HO211 HO214 HO218 HO222 BK207 BK219 HB hHeld ⊢
         refine take_ (i := 0) (N := some 41) (v := ?_) (a' := ?_) #[true, false, false, false, false] rfl rfl (by kernel_rfl) (fun _ _ _ h => h) (Or.inl ⟨by rfl, ?_⟩) hHeld ?_ ?_
         rotate_left
         · rintro w' ⟨s0, s1⟩
           go_simp
           with_reducible rfl
         rotate_left
         · simp only [Act.put, List.setIfInBounds_toArray, List.set_cons_zero, List.set_cons_succ, i64_w, i32_w]
           rfl
         refine take_ (i := 1) (N := some 42) (v := ?_) (a' := ?_) #[true, true, false, false, false] rfl rfl (by kernel_rfl) (fun _ _ _ h => h) (Or.inl ⟨by rfl, ?_⟩) hHeld ?_ ?_
         rotate_left
         · rintro w' ⟨s0, s1⟩
           go_simp
           with_reducible rfl
         rotate_left
         · simp only [Act.put, List.setIfInBounds_toArray, List.set_cons_zero, List.set_cons_succ, i64_w, i32_w]
           rfl
         refine one_ (i := 2) (N := some 43) #[true, true, true, false, false] rfl rfl (by kernel_rfl) (by decide) (fun K hK => ?_)
         refine goes_ Tryd.func20 (by kernel_rfl) rfl #[.agg #[.slice A0_0 l0_0.length c0_0]] (by rfl) rfl rfl z9_3_ ?_
         with_reducible refine (laws_toPuzzle.calls k _ _ l0_0 t226 _ ?side1 ?side2 A14.out).mono ?_
         (case side1 => repeat (first | exact (Kd.C_below HR0_0.out HB.out) | (with_reducible refine Kd.C_alloc ?_ _) | (with_reducible refine Kd.C_drewN ?_ _) | (with_reducible refine Kd.C_drew ?_)))
         (case side2 => exact HC0_0.out)
         rintro e w50 ⟨v227, rfl, ho0, hb⟩
         refine ⟨_, rfl, ?_⟩
         have n0_ := Aside0.mk (Kd.R_elder' z9_6_ (Kd.R_base ho0) hb)
         have n1_ := Aside0.mk (Kd.R_below z9_8_ hb)
         have n2_ := Aside0.mk (Kd.R_elder' z9_9_ (Kd.R_base ho0) hb)
         have n3_ := Aside0.mk (Kd.R_below z9_11_ hb)
         have n4_ := Aside0.mk (Kd.R_lower (Kd.R_new' (Kd.R_new' ho0 (Kd.R_lt z9_6_)) (Kd.R_lt z9_9_)) (below_size z9_1_))
         have n5_ := Aside0.mk (blk_below (g := gb207) (o := .cells #[.slice A0_0 l0_0.length c0_0] 31 (0, 0)) z9_2_ hb)
         have n6_ := Aside0.mk (blk_below (g := gb219) (o := .cells #[.slice Ao43 t216.length co43] 37 (0, 0)) z9_7_ hb)
         have n7_ := Aside0.mk (below_step z9_1_ hb)
         clear HO211
         clear HO214
         clear HO218
         clear HO222
         clear BK207
         clear BK219
         clear HB
         have HO211 := n0_
         have HO214 := n1_
         have HO218 := n2_
         have HO222 := n3_
         have HO228 := n4_
         have BK207 := n5_
         have BK219 := n6_
         have HB := n7_
         clear n0_ n1_ n2_ n3_ n4_ n5_ n6_ n7_
         (try clear hb)
         (try clear hb2)
         (try clear hk)
         (try clear hi)
         (try clear ho0)
         obtain ⟨Ao51, co51, eo51⟩ := Kd.R_slice HO228.out
         (first | subst eo51 | (injection eo51 with f1_ f2_ f3_; have f4_ := f1_.symm; have f5_ := f3_.symm; clear f1_ f2_ f3_; subst f4_; subst f5_))
         refine hK.out _ _ ⟨(blk_cell BK219.out 0).trans rfl, (blk_cell BK207.out 0).trans rfl⟩ (fun hHeld => ?_)
         clear hK K
         refine norm_ (a' := ?_) ?_ ?_
         rotate_left
         · show Act.put _ (some 43) _ = _
           simp only [Act.put, List.setIfInBounds_toArray, List.set_cons_zero, List.set_cons_succ, i64_w, i32_w]
           rfl
         refine one_ (i := 3) (N := some 44) #[true, true, true, true, false] rfl rfl (by kernel_rfl) (by decide) (fun K hK => ?_)
         refine goes_ Tryd.func22 (by kernel_rfl) rfl #[.agg #[.slice Ao43 t216.length co43], .agg #[.slice Ao51 t226.length co51]] (by rfl) rfl rfl z9_3_ ?_
         with_reducible refine (laws_eqPuzzle.calls k _ _ t216 _ _ t226 true _ ?side1 ?side2 ?side3 ?side4 A15.out).mono ?_
         (case side1 => repeat (first | exact (Kd.R_reads' HO218.out).2.2 | (with_reducible refine Kd.C_alloc ?_ _) | (with_reducible refine Kd.C_drewN ?_ _) | (with_reducible refine Kd.C_drew ?_)))
         (case side2 => exact (Kd.R_reads' HO218.out).2.1)
         (case side3 => repeat (first | exact (Kd.R_reads' HO228.out).2.2 | (with_reducible refine Kd.C_alloc ?_ _) | (with_reducible refine Kd.C_drewN ?_ _) | (with_reducible refine Kd.C_drew ?_)))
         (case side4 => exact (Kd.R_reads' HO228.out).2.1)
         rintro e w52 ⟨rfl, hb⟩
         refine ⟨_, rfl, ?_⟩
         have n0_ := Aside0.mk (Kd.R_below z9_6_ hb)
         have n1_ := Aside0.mk (Kd.R_below z9_8_ hb)
         have n2_ := Aside0.mk (Kd.R_below z9_9_ hb)
         have n3_ := Aside0.mk (Kd.R_below z9_11_ hb)
         have n4_ := Aside0.mk (Kd.R_below z9_12_ hb)
         have n5_ := Aside0.mk (blk_below (g := gb207) (o := .cells #[.slice A0_0 l0_0.length c0_0] 31 (0, 0)) z9_2_ hb)
         have n6_ := Aside0.mk (blk_below (g := gb219) (o := .cells #[.slice Ao43 t216.length co43] 37 (0, 0)) z9_7_ hb)
         have n7_ := Aside0.mk (below_step z9_1_ hb)
         clear HO211
         clear HO214
         clear HO218
         clear HO222
         clear HO228
         clear BK207
         clear BK219
         clear HB
         have HO211 := n0_
         have HO214 := n1_
         have HO218 := n2_
         have HO222 := n3_
         have HO228 := n4_
         have BK207 := n5_
         have BK219 := n6_
         have HB := n7_
         clear n0_ n1_ n2_ n3_ n4_ n5_ n6_ n7_
         (try clear hb)
         (try clear hb2)
         (try clear hk)
         (try clear hi)
         refine hK.out _ _ ⟨(blk_cell BK219.out 0).trans rfl, (blk_cell BK207.out 0).trans rfl⟩ (fun hHeld => ?_)
         clear hK K
         refine norm_ (a' := ?_) ?_ ?_
         rotate_left
         · show Act.put _ (some 44) _ = _
           simp only [Act.put, List.setIfInBounds_toArray, List.set_cons_zero, List.set_cons_succ, i64_w, i32_w]
           rfl
         refine pure_ (i := 4) (N := some 45) (v := ?_) (a' := ?_) #[true, true, true, true, true] rfl rfl (by kernel_rfl) (fun _ _ _ h => h) (Or.inl ⟨by rfl, ?_⟩) ?_ ?_
         rotate_left
         · intro w'
           go_simp
           with_reducible rfl
         rotate_left
         · simp only [Act.put, List.setIfInBounds_toArray, List.set_cons_zero, List.set_cons_succ, i64_w, i32_w]
           rfl
         refine done_ (by kernel_rfl) ?_
         have hcz53_0 : w52.cell? ⟨gb219, 0, none⟩ = some (.slice Ao43 t216.length co43) := (blk_cell BK219.out 0).trans rfl
         have hfz53_0 := blk_frozen BK219.out 0
         try go_wp2_with (first | ((with_reducible refine gate_callee (f := 27) rfl ?_); refine goesL_ (some 48) rfl rfl Tryd.func27 (by kernel_rfl) rfl #[.agg #[.slice Ao43 t216.length co43], .int .i64 1] rfl z9_3_ ?_; (with_reducible refine (laws_markPuzzle.calls k (fun k_ => some k_ = (.slice Ao43 t216.length co43 : Value).ownBlock) (.slice Ao43 t216.length co43) t216 1 t230 t231 w _ ?side1 ?side2 A17.out).mono ?_); (case side1 => repeat (first | (with_reducible first | exact HB.out | apply below_alloc | apply pw_below_drewN | apply below_drew1 | refine below_set ?_ GE207.out | refine below_set ?_ GE219.out) | exact HB.out)); (case side2 => exact Kd.R_tight rfl HO218.out); rintro e w54 ⟨rfl, hy0, hb, hkp⟩; refine ⟨_, rfl, ?_⟩; have n0_ := Aside0.mk (blk_kept z9_2_ hkp (fun hs_ => (fun e_ => (Kd.R_ne HO218.out BK207.out (by decide)) e_) hs_)); have n1_ := Aside0.mk (Kd.R_mono (ok' := fun k_ => some k_ ≠ (.slice Ao43 t216.length co43 : Value).ownBlock ∧ some k_ ≠ (.slice Ao51 t226.length co51 : Value).ownBlock) (Kd.R_keptB (HO211.out) hkp (fun k_ hk_ hs_ => z9_5_)) (fun k_ hk_ => ⟨z9_0_, z9_0_⟩)); have n2_ := Aside0.mk (Kd.R_mono (ok' := fun k_ => some k_ ≠ (.slice Ao47 t220.length co47 : Value).ownBlock) (Kd.R_keptB ((Kd.R_apart' HO214.out (Kd.R_typed HO218.out) (by decide))) hkp (fun k_ hk_ hs_ => z9_5_)) (fun k_ hk_ => z9_0_)); have n3_ := Aside0.mk (Kd.R_reok rfl hy0 (fun k_ e_ => HO218.out.1 k_ e_)); have n4_ := Aside0.mk (blk_kept z9_7_ hkp (fun hs_ => (fun e_ => (Kd.R_ne HO218.out BK219.out (by decide)) e_) hs_)); have n5_ := Aside0.mk (Kd.R_mono (ok' := fun k_ => some k_ ≠ (.slice Ao48 t212.length co48 : Value).ownBlock) (Kd.R_keptB ((Kd.R_apart' HO222.out (Kd.R_typed HO218.out) (by decide))) hkp (fun k_ hk_ hs_ => z9_5_)) (fun k_ hk_ => z9_0_)); have n6_ := Aside0.mk (Kd.R_mono (ok' := fun k_ => some k_ ≠ (.slice Ao38 t209.length co38 : Value).ownBlock ∧ some k_ ≠ (.slice Ao43 t216.length co43 : Value).ownBlock) (Kd.R_keptB (HO228.out) hkp (fun k_ hk_ hs_ => z9_5_)) (fun k_ hk_ => ⟨z9_0_, z9_0_⟩)); have n7_ := Aside0.mk (hb); clear BK207; clear HO211; clear HO214; clear HO218; clear BK219; clear HO222; clear HO228; clear HB; have BK207 := n0_; have HO211 := n1_; have HO214 := n2_; have HO218 := n3_; have BK219 := n4_; have HO222 := n5_; have HO228 := n6_; have HB := n7_; clear n0_ n1_ n2_ n3_ n4_ n5_ n6_ n7_; (try clear hb); (try clear hkp); (try clear hy0)) | (go_at_call 42; (with_reducible refine (laws_eqStringS.calls k _ _ t220 _ _ t212 true _ ?side1 ?side2 ?side3 ?side4 A19.out).mono ?_); (case side1 => repeat (first | exact (Kd.R_reads' HO222.out).2.2 | (with_reducible refine Kd.C_alloc ?_ _) | (with_reducible refine Kd.C_drewN ?_ _) | (with_reducible refine Kd.C_drew ?_))); (case side2 => exact (Kd.R_reads' HO222.out).2.1); (case side3 => repeat (first | exact (Kd.R_reads' HO214.out).2.2 | (with_reducible refine Kd.C_alloc ?_ _) | (with_reducible refine Kd.C_drewN ?_ _) | (with_reducible refine Kd.C_drew ?_))); (case side4 => exact (Kd.R_reads' HO214.out).2.1); rintro e w' ⟨rfl, ⟨nd, rfl⟩⟩) | ((with_reducible refine gate_callee (f := 43) rfl ?_); refine goesL_ (some 64) rfl rfl Tryd.func43 (by kernel_rfl) rfl #[.slice Ao47 t220.length co47, .int .i64 1] rfl z9_3_ ?_; (with_reducible refine (laws_markStringS.calls k (fun k_ => some k_ = (.slice Ao47 t220.length co47 : Value).ownBlock) (.slice Ao47 t220.length co47) t220 1 t234 t235 w _ ?side1 ?side2 A21.out).mono ?_); (case side1 => repeat (first | (with_reducible first | exact HB.out | apply below_alloc | apply pw_below_drewN | apply below_drew1 | refine below_set ?_ GE207.out | refine below_set ?_ GE219.out) | exact HB.out)); (case side2 => exact Kd.R_tight rfl HO222.out); rintro e w55 ⟨rfl, hy0, hb, hkp⟩; refine ⟨_, rfl, ?_⟩; have n0_ := Aside0.mk (blk_kept z9_2_ hkp (fun hs_ => (fun e_ => (Kd.R_ne HO222.out BK207.out (by decide)) e_) hs_)); have n1_ := Aside0.mk (Kd.R_mono (ok' := fun k_ => some k_ ≠ (.slice Ao43 t216.length co43 : Value).ownBlock ∧ some k_ ≠ (.slice Ao51 t226.length co51 : Value).ownBlock) (Kd.R_keptB ((Kd.R_apart' HO211.out (Kd.R_typed HO222.out) (by decide))) hkp (fun k_ hk_ hs_ => z9_5_)) (fun k_ hk_ => ⟨z9_0_, z9_0_⟩)); have n2_ := Aside0.mk (Kd.R_mono (ok' := fun k_ => some k_ ≠ (.slice Ao47 t220.length co47 : Value).ownBlock) (Kd.R_keptB (HO214.out) hkp (fun k_ hk_ hs_ => z9_5_)) (fun k_ hk_ => z9_0_)); have n3_ := Aside0.mk (Kd.R_mono (ok' := fun k_ => some k_ ≠ (.slice Ao38 t209.length co38 : Value).ownBlock ∧ some k_ ≠ (.slice Ao51 t226.length co51 : Value).ownBlock) (Kd.R_keptB ((Kd.R_apart' HO218.out (Kd.R_typed HO222.out) (by decide))) hkp (fun k_ hk_ hs_ => z9_5_)) (fun k_ hk_ => ⟨z9_0_, z9_0_⟩)); have n4_ := Aside0.mk (blk_kept z9_7_ hkp (fun hs_ => (fun e_ => (Kd.R_ne HO222.out BK219.out (by decide)) e_) hs_)); have n5_ := Aside0.mk (Kd.R_reok rfl hy0 (fun k_ e_ => HO222.out.1 k_ e_)); have n6_ := Aside0.mk (Kd.R_mono (ok' := fun k_ => some k_ ≠ (.slice Ao38 t209.length co38 : Value).ownBlock ∧ some k_ ≠ (.slice Ao43 t216.length co43 : Value).ownBlock) (Kd.R_keptB ((Kd.R_apart' HO228.out (Kd.R_typed HO222.out) (by decide))) hkp (fun k_ hk_ hs_ => z9_5_)) (fun k_ hk_ => ⟨z9_0_, z9_0_⟩)); have n7_ := Aside0.mk (hb); clear BK207; clear HO211; clear HO214; clear HO218; clear BK219; clear HO222; clear HO228; clear HB; have BK207 := n0_; have HO211 := n1_; have HO214 := n2_; have HO218 := n3_; have BK219 := n4_; have HO222 := n5_; have HO228 := n6_; have HB := n7_; clear n0_ n1_ n2_ n3_ n4_ n5_ n6_ n7_; (try clear hb); (try clear hkp); (try clear hy0)) | ((with_reducible refine gate_callee (f := 44) rfl ?_); refine goesL_ (some 67) rfl rfl Tryd.func44 (by kernel_rfl) rfl #[.slice Ao47 t235.length co47, .int .i64 1] rfl z9_13_ ?_; (with_reducible refine (laws_heldStringS.calls k _ _ t235 1 t236 _ ?side1 ?side2 A22.out).mono ?_); (case side1 => repeat (first | exact (Kd.R_reads' HO222.out).2.2 | (with_reducible refine Kd.C_alloc ?_ _) | (with_reducible refine Kd.C_drewN ?_ _) | (with_reducible refine Kd.C_drew ?_))); (case side2 => rw [show t235.length = t220.length from (Kd.R_reads' HO222.out).1.symm]; exact (Kd.R_reads' HO222.out).2.1); rintro e w56 ⟨rfl, hb⟩; refine ⟨_, rfl, ?_⟩; have n0_ := Aside0.mk (Kd.R_below z9_6_ hb); have n1_ := Aside0.mk (Kd.R_below z9_8_ hb); have n2_ := Aside0.mk (Kd.R_below z9_9_ hb); have n3_ := Aside0.mk (Kd.R_below z9_11_ hb); have n4_ := Aside0.mk (Kd.R_below z9_12_ hb); have n5_ := Aside0.mk (blk_below (g := gb207) (o := .cells #[.slice A0_0 l0_0.length c0_0] 31 (0, 0)) z9_2_ hb); have n6_ := Aside0.mk (blk_below (g := gb219) (o := .cells #[.slice Ao43 t216.length co43] 37 (0, 0)) z9_7_ hb); have n7_ := Aside0.mk (below_step z9_1_ hb); clear HO211; clear HO214; clear HO218; clear HO222; clear HO228; clear BK207; clear BK219; clear HB; have HO211 := n0_; have HO214 := n1_; have HO218 := n2_; have HO222 := n3_; have HO228 := n4_; have BK207 := n5_; have BK219 := n6_; have HB := n7_; clear n0_ n1_ n2_ n3_ n4_ n5_ n6_ n7_; (try clear hb); (try clear hb2); (try clear hk); (try clear hi); have hcz57_0 : w56.cell? ⟨gb207, 0, none⟩ = some (.slice A0_0 l0_0.length c0_0) := (blk_cell BK207.out 0).trans rfl; have hfz57_0 := blk_frozen BK207.out 0) | ((with_reducible refine gate_callee (f := 20) rfl ?_); refine goesL_ (some 75) rfl rfl Tryd.func20 (by kernel_rfl) rfl #[.agg #[.slice A0_0 l0_0.length c0_0]] rfl z9_3_ ?_; (with_reducible refine (laws_toPuzzle.calls k _ _ l0_0 t237 _ ?side1 ?side2 A25.out).mono ?_); (case side1 => repeat (first | exact (Kd.C_below HR0_0.out HB.out) | (with_reducible refine Kd.C_alloc ?_ _) | (with_reducible refine Kd.C_drewN ?_ _) | (with_reducible refine Kd.C_drew ?_))); (case side2 => exact HC0_0.out); rintro e w58 ⟨v238, rfl, ho0, hb⟩; refine ⟨_, rfl, ?_⟩; have n0_ := Aside0.mk (Kd.R_elder' z9_6_ (Kd.R_base ho0) hb); have n1_ := Aside0.mk (Kd.R_below z9_8_ hb); have n2_ := Aside0.mk (Kd.R_elder' z9_9_ (Kd.R_base ho0) hb); have n3_ := Aside0.mk (Kd.R_below z9_11_ hb); have n4_ := Aside0.mk (Kd.R_elder' z9_12_ (Kd.R_base ho0) hb); have n5_ := Aside0.mk (Kd.R_lower (Kd.R_new' (Kd.R_new' (Kd.R_new' ho0 (Kd.R_lt z9_6_)) (Kd.R_lt z9_9_)) (Kd.R_lt z9_12_)) (below_size z9_1_)); have n6_ := Aside0.mk (blk_below (g := gb207) (o := .cells #[.slice A0_0 l0_0.length c0_0] 31 (0, 0)) z9_2_ hb); have n7_ := Aside0.mk (blk_below (g := gb219) (o := .cells #[.slice Ao43 t216.length co43] 37 (0, 0)) z9_7_ hb); have n8_ := Aside0.mk (below_step z9_1_ hb); clear HO211; clear HO214; clear HO218; clear HO222; clear HO228; clear BK207; clear BK219; clear HB; have HO211 := n0_; have HO214 := n1_; have HO218 := n2_; have HO222 := n3_; have HO228 := n4_; have HO239 := n5_; have BK207 := n6_; have BK219 := n7_; have HB := n8_; clear n0_ n1_ n2_ n3_ n4_ n5_ n6_ n7_ n8_; (try clear hb); (try clear hb2); (try clear hk); (try clear hi); (try clear ho0); obtain ⟨Ao59, co59, eo59⟩ := Kd.R_slice HO239.out; subst eo59) | ((with_reducible refine gate_callee (f := 41) rfl ?_); refine goesL_ (some 76) rfl rfl Tryd.func41 (by kernel_rfl) rfl #[.agg #[.slice Ao59 t237.length co59]] rfl z9_3_ ?_; (with_reducible refine (impl_Solutions.calls k _ _ t237 t240 t243 _ ?side1 ?side2 A26.out).mono ?_); (case side1 => repeat (first | exact (Kd.R_reads' HO239.out).2.2 | (with_reducible refine Kd.C_alloc ?_ _) | (with_reducible refine Kd.C_drewN ?_ _) | (with_reducible refine Kd.C_drew ?_))); (case side2 => exact (Kd.R_reads' HO239.out).2.1); rintro e w60 ⟨v241, rfl, ho0, hb⟩; refine ⟨_, rfl, ?_⟩; have n0_ := Aside0.mk (Kd.R_below z9_6_ hb); have n1_ := Aside0.mk (Kd.R_elder' z9_8_ (Kd.R_base ho0) hb); have n2_ := Aside0.mk (Kd.R_below z9_9_ hb); have n3_ := Aside0.mk (Kd.R_elder' z9_11_ (Kd.R_base ho0) hb); have n4_ := Aside0.mk (Kd.R_below z9_12_ hb); have n5_ := Aside0.mk (Kd.R_below (by (with_reducible repeat (first | apply Kd.R_alloc | apply Kd.R_drewN | apply Kd.R_drew)); exact HO239.out) hb); have n6_ := Aside0.mk (Kd.R_lower (Kd.R_new' (Kd.R_new' ho0 (Kd.R_lt z9_8_)) (Kd.R_lt z9_11_)) (below_size z9_1_)); have n7_ := Aside0.mk (blk_below (g := gb207) (o := .cells #[.slice A0_0 l0_0.length c0_0] 31 (0, 0)) z9_2_ hb); have n8_ := Aside0.mk (blk_below (g := gb219) (o := .cells #[.slice Ao43 t216.length co43] 37 (0, 0)) z9_7_ hb); have n9_ := Aside0.mk (below_step z9_1_ hb); clear HO211; clear HO214; clear HO218; clear HO222; clear HO228; clear HO239; clear BK207; clear BK219; clear HB; have HO211 := n0_; have HO214 := n1_; have HO218 := n2_; have HO222 := n3_; have HO228 := n4_; have HO239 := n5_; have HO242 := n6_; have BK207 := n7_; have BK219 := n8_; have HB := n9_; clear n0_ n1_ n2_ n3_ n4_ n5_ n6_ n7_ n8_ n9_; (try clear hb); (try clear hb2); (try clear hk); (try clear hi); (try clear ho0); obtain ⟨Ao61, co61, eo61⟩ := Kd.R_slice HO242.out; subst eo61) | ((with_reducible refine gate_callee (f := 42) rfl ?_); refine goesL_ (some 81) rfl rfl Tryd.func42 (by kernel_rfl) rfl #[.slice Ao61 t240.length co61, .slice Ao48 t212.length co48] rfl z9_3_ ?_; (with_reducible refine (laws_eqStringS.calls k _ _ t240 _ _ t212 true _ ?side1 ?side2 ?side3 ?side4 A27.out).mono ?_); (case side1 => repeat (first | exact (Kd.R_reads' HO242.out).2.2 | (with_reducible refine Kd.C_alloc ?_ _) | (with_reducible refine Kd.C_drewN ?_ _) | (with_reducible refine Kd.C_drew ?_))); (case side2 => exact (Kd.R_reads' HO242.out).2.1); (case side3 => repeat (first | exact (Kd.R_reads' HO214.out).2.2 | (with_reducible refine Kd.C_alloc ?_ _) | (with_reducible refine Kd.C_drewN ?_ _) | (with_reducible refine Kd.C_drew ?_))); (case side4 => exact (Kd.R_reads' HO214.out).2.1); rintro e w' ⟨rfl, ⟨nd, rfl⟩⟩; refine ⟨_, rfl, ?_⟩) | ((with_reducible refine gate_callee (f := 44) rfl ?_); refine goesL_ (some 90) rfl rfl Tryd.func44 (by kernel_rfl) rfl #[.slice Ao47 t235.length co47, .int .i64 1] rfl z9_13_ ?_; (with_reducible refine (laws_heldStringS.calls k _ _ t235 1 t246 _ ?side1 ?side2 A30.out).mono ?_); (case side1 => repeat (first | exact (Kd.R_reads' HO222.out).2.2 | (with_reducible refine Kd.C_alloc ?_ _) | (with_reducible refine Kd.C_drewN ?_ _) | (with_reducible refine Kd.C_drew ?_))); (case side2 => rw [show t235.length = t220.length from (Kd.R_reads' HO222.out).1.symm]; exact (Kd.R_reads' HO222.out).2.1); rintro e w62 ⟨rfl, hb⟩; refine ⟨_, rfl, ?_⟩; have n0_ := Aside0.mk (Kd.R_below z9_6_ hb); have n1_ := Aside0.mk (Kd.R_below z9_8_ hb); have n2_ := Aside0.mk (Kd.R_below z9_9_ hb); have n3_ := Aside0.mk (Kd.R_below z9_11_ hb); have n4_ := Aside0.mk (Kd.R_below z9_12_ hb); have n5_ := Aside0.mk (Kd.R_below (by (with_reducible repeat (first | apply Kd.R_alloc | apply Kd.R_drewN | apply Kd.R_drew)); exact HO239.out) hb); have n6_ := Aside0.mk (Kd.R_below (by (with_reducible repeat (first | apply Kd.R_alloc | apply Kd.R_drewN | apply Kd.R_drew)); exact HO242.out) hb); have n7_ := Aside0.mk (blk_below (g := gb207) (o := .cells #[.slice A0_0 l0_0.length c0_0] 31 (0, 0)) z9_2_ hb); have n8_ := Aside0.mk (blk_below (g := gb219) (o := .cells #[.slice Ao43 t216.length co43] 37 (0, 0)) z9_7_ hb); have n9_ := Aside0.mk (below_step z9_1_ hb); clear HO211; clear HO214; clear HO218; clear HO222; clear HO228; clear HO239; clear HO242; clear BK207; clear BK219; clear HB; have HO211 := n0_; have HO214 := n1_; have HO218 := n2_; have HO222 := n3_; have HO228 := n4_; have HO239 := n5_; have HO242 := n6_; have BK207 := n7_; have BK219 := n8_; have HB := n9_; clear n0_ n1_ n2_ n3_ n4_ n5_ n6_ n7_ n8_ n9_; (try clear hb); (try clear hb2); (try clear hk); (try clear hi)))
         go_ret
         exact ⟨by first | rfl | (simp [errW_none, errW_some] <;> rfl) | (simp [*, errW_none, errW_some] <;> rfl), by repeat (first | (with_reducible first | exact HB.out | apply below_alloc | apply pw_below_drewN | apply below_drew1 | refine below_set ?_ GE207.out | refine below_set ?_ GE219.out) | exact HB.out)⟩
       replace c28 := Bool.eq_false_iff.mpr c28
       subst c28
       rw [if_neg (show ¬ (false = true) by decide)] at H
       exact Bool.noConfusion ((Option.some.inj H).trans hr_.out)
     replace c20 := Bool.eq_false_iff.mpr c20
     subst c20
     rw [if_neg (show ¬ (false = true) by decide)] at H
     exact Bool.noConfusion ((Option.some.inj H).trans hr_.out)
   replace c16 := Bool.eq_false_iff.mpr c16
   subst c16
   rw [if_neg (show ¬ (false = true) by decide)] at H
   exact Bool.noConfusion ((Option.some.inj H).trans hr_.out)
 replace c12 := Bool.eq_false_iff.mpr c12
 subst c12
 rw [if_neg (show ¬ (false = true) by decide)] at H
 exact Bool.noConfusion ((Option.some.inj H).trans hr_.out)

end Go.Proofs.YtgpakeadepcgnaaDoor.PFnExactSolutions

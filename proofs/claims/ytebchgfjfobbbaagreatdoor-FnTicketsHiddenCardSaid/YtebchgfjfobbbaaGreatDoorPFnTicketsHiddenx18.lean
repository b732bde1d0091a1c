-- Laid by this session's program gprint.py over the kit's print.
import Derived.Test.YtebchgfjfobbbaaGreatDoorSq
import Derived.Test.YtebchgfjfobbbaaGreatDoorZip
import Derived.Test.YtebchgfjfobbbaaGreatDoorPFnTicketsHiddenx6
import Derived.Test.YtebchgfjfobbbaaGreatDoorPFnTicketsHiddenx11
import Derived.Test.YtebchgfjfobbbaaGreatDoorPFnTicketsHiddenx15
import Derived.Test.YtebchgfjfobbbaaGreatDoorPFnTicketsHiddenx17
namespace Go.Proofs.YtebchgfjfobbbaaGreatDoor.PFnTicketsHidden
open Go.RowKit Go.Proofs.YtebchgfjfobbbaaGreatDoorW.PrintWords Go.Proofs.YtebchgfjfobbbaaGreatDoorW.PrintLast Go.Proofs.YtebchgfjfobbbaaGreatDoorW.PrintMore
attribute [local go_sem] max2_int min2_int max_two min_two max_three min_three max_four min_four   -- for this text's walks alone
set_option linter.unusedVariables false
set_option linter.unusedSimpArgs false
theorem zq18_0_ {p : Prop} (h : p := by refine rr_ ?_; exact (Kd.R_mono (Kd.R_mono (Kd.R_far (p := ⟨gb673, 2, none⟩) (Kd.R_far (p := ⟨gb673, 1, none⟩) (Kd.R_far (p := ⟨gb673, 0, none⟩) (Kd.R_far (p := ⟨gb672, 0, none⟩) (Kd.R_mono (Kd.R_types HO668.out BK672.out (by decide)) (fun k_ hk => (⟨hk, hk.1.2⟩ : _ ∧ k_ ≠ gb673))) (fun _ hk => hk.1.2) (.slice Ao149 t666.length co149)) (fun _ hk => hk.2) (.int .i64 t669)) (fun _ hk => hk.2) (.int .i64 t670)) (fun _ hk => hk.2) (.int .i64 t671)) (fun _ h_ => h_.1)) (fun _ h_ => h_.1))) : p := h
theorem zq18_1_ {p : Prop} (h : p := by first | exact Kd.own_blk (Kd.R_ne HO_689000.out BK736.out (by decide)) | (rw [add_block]; exact Kd.own_blk (Kd.R_ne HO_689000.out BK736.out (by decide))) | (show (Addr.add _ _).block ≠ _; rw [add_block]; exact Kd.own_blk (Kd.R_ne HO_689000.out BK736.out (by decide))) | (dsimp only; exact Kd.own_blk (Kd.R_ne HO_689000.out BK736.out (by decide)))) : p := h
theorem zq18_2_ {p : Prop} (h : p := by refine rr_ ?_; exact (Kd.R_mono (Kd.R_far (p := ⟨gb693, 0, none⟩) (Kd.R_types HO686.out BK693.out (by decide)) (fun _ hk => hk.2) (.slice Ao178 t689.length co178)) (fun _ h_ => h_.1))) : p := h
theorem zq18_3_ {p : Prop} (h : p := by refine rr_ ?_; exact (Kd.R_mono (Kd.R_far (p := ⟨gb688, 0, none⟩) (Kd.R_types HO686.out BK688.out (by decide)) (fun _ hk => hk.2) (.slice Ao170 t684.length co170)) (fun _ h_ => h_.1))) : p := h
theorem zq18_4_ {p : Prop} (h : p := by refine rr_ ?_; exact (Kd.R_mono (Kd.R_far (p := ⟨gb678, 0, none⟩) (Kd.R_types HO668.out BK678.out (by decide)) (fun _ hk => hk.2) (.slice Ao155 t674.length co155)) (fun _ h_ => h_.1))) : p := h
theorem zq18_5_ {p : Prop} (h : p := by refine rr_ ?_; exact (Kd.R_mono (Kd.R_far (p := ⟨gb642, 0, none⟩) (Kd.R_types HO636.out BK642.out (by decide)) (fun _ hk => hk.2) (.slice Ao76 t638.length co76)) (fun _ h_ => h_.1))) : p := h
theorem zq18_6_ {p : Prop} (h : p := by refine rr_ ?_; exact (Kd.R_mono (Kd.R_far (p := ⟨gb637, 0, none⟩) (Kd.R_types HO636.out BK637.out (by decide)) (fun _ hk => hk.2) (.slice Ao72 t634.length co72)) (fun _ h_ => h_.1))) : p := h
theorem zq18_7_ {p : Prop} (h : p := by refine rr_ ?_; exact (Kd.R_mono (Kd.R_far (p := ⟨gb736, 0, none⟩) (Kd.R_types HO_689000.out BK736.out (by decide)) (fun _ hk => hk.2) (.slice Ao317 t732.length co317)) (fun _ h_ => h_.1))) : p := h
theorem zq18_8_ {p : Prop} (h : p := by refine rr_ ?_; exact (Kd.R_mono (Kd.R_far (p := ⟨gb736, 0, none⟩) (Kd.R_types HO734.out BK736.out (by decide)) (fun _ hk => hk.2) (.slice Ao317 t732.length co317)) (fun _ h_ => h_.1))) : p := h
theorem zq18_9_ {p : Prop} (h : p := by refine rr_ ?_; exact (Kd.R_mono (Kd.R_far (p := ⟨gb693, 0, none⟩) (Kd.R_types HO691.out BK693.out (by decide)) (fun _ hk => hk.2) (.slice Ao178 t689.length co178)) (fun _ h_ => h_.1))) : p := h
theorem zq18_10_ {p : Prop} (h : p := by refine rr_ ?_; exact (Kd.R_mono (Kd.R_far (p := ⟨gb693, 0, none⟩) (Kd.R_types HO681.out BK693.out (by decide)) (fun _ hk => hk.2) (.slice Ao178 t689.length co178)) (fun _ h_ => h_.1))) : p := h
theorem zq18_11_ {p : Prop} (h : p := by refine rr_ ?_; exact (Kd.R_mono (Kd.R_far (p := ⟨gb693, 0, none⟩) (Kd.R_types HO676.out BK693.out (by decide)) (fun _ hk => hk.2) (.slice Ao178 t689.length co178)) (fun _ h_ => h_.1))) : p := h
theorem zq18_12_ {p : Prop} (h : p := by refine rr_ ?_; exact (Kd.R_mono (Kd.R_far (p := ⟨gb693, 0, none⟩) (Kd.R_types HO668.out BK693.out (by decide)) (fun _ hk => hk.2) (.slice Ao178 t689.length co178)) (fun _ h_ => h_.1))) : p := h
theorem zq18_13_ {p : Prop} (h : p := by refine rr_ ?_; exact (Kd.R_mono (Kd.R_far (p := ⟨gb688, 0, none⟩) (Kd.R_types HO681.out BK688.out (by decide)) (fun _ hk => hk.2) (.slice Ao170 t684.length co170)) (fun _ h_ => h_.1))) : p := h
theorem zq18_14_ {p : Prop} (h : p := by refine rr_ ?_; exact (Kd.R_mono (Kd.R_far (p := ⟨gb688, 0, none⟩) (Kd.R_types HO676.out BK688.out (by decide)) (fun _ hk => hk.2) (.slice Ao170 t684.length co170)) (fun _ h_ => h_.1))) : p := h
theorem zq18_15_ {p : Prop} (h : p := by refine rr_ ?_; exact (Kd.R_mono (Kd.R_far (p := ⟨gb688, 0, none⟩) (Kd.R_types HO668.out BK688.out (by decide)) (fun _ hk => hk.2) (.slice Ao170 t684.length co170)) (fun _ h_ => h_.1))) : p := h
theorem zq18_16_ {p : Prop} (h : p := by refine rr_ ?_; exact (Kd.R_mono (Kd.R_far (p := ⟨gb683, 0, none⟩) (Kd.R_types HO681.out BK683.out (by decide)) (fun _ hk => hk.2) (.slice Ao163 t679.length co163)) (fun _ h_ => h_.1))) : p := h
theorem zq18_17_ {p : Prop} (h : p := by refine rr_ ?_; exact (Kd.R_mono (Kd.R_far (p := ⟨gb683, 0, none⟩) (Kd.R_types HO676.out BK683.out (by decide)) (fun _ hk => hk.2) (.slice Ao163 t679.length co163)) (fun _ h_ => h_.1))) : p := h
theorem zq18_18_ {p : Prop} (h : p := by refine rr_ ?_; exact (Kd.R_mono (Kd.R_far (p := ⟨gb683, 0, none⟩) (Kd.R_types HO668.out BK683.out (by decide)) (fun _ hk => hk.2) (.slice Ao163 t679.length co163)) (fun _ h_ => h_.1))) : p := h
theorem zq18_19_ {p : Prop} (h : p := by refine rr_ ?_; exact (Kd.R_mono (Kd.R_far (p := ⟨gb678, 0, none⟩) (Kd.R_types HO676.out BK678.out (by decide)) (fun _ hk => hk.2) (.slice Ao155 t674.length co155)) (fun _ h_ => h_.1))) : p := h
theorem zq18_20_ {p : Prop} (h : p := by refine rr_ ?_; exact (Kd.R_mono (Kd.R_far (p := ⟨gb647, 0, none⟩) (Kd.R_types HO636.out BK647.out (by decide)) (fun _ hk => hk.2) (.slice Ao82 t643.length co82)) (fun _ h_ => h_.1))) : p := h
theorem zq18_21_ {p : Prop} (h : p := by refine rr_ ?_; exact (Kd.R_mono (Kd.R_far (p := ⟨gb642, 0, none⟩) (Kd.R_types HO640.out BK642.out (by decide)) (fun _ hk => hk.2) (.slice Ao76 t638.length co76)) (fun _ h_ => h_.1))) : p := h
theorem zq18_22_ {p : Prop} (h : p := by refine rr_ ?_; exact (Kd.R_mono (Kd.R_far (p := ⟨gb610, 0, none⟩) (Kd.R_types HO608.out BK610.out (by decide)) (fun _ hk => hk.2) (.slice Ao19 t606.length co19)) (fun _ h_ => h_.1))) : p := h
theorem zq18_23_ {p : Prop} (h : p := by refine rr_ ?_; exact (Kd.R_mono (Kd.R_far (p := ⟨gb610, 0, none⟩) (Kd.R_types HO603.out BK610.out (by decide)) (fun _ hk => hk.2) (.slice Ao19 t606.length co19)) (fun _ h_ => h_.1))) : p := h
theorem zq18_24_ {p : Prop} (h : p := by refine rr_ ?_; exact (Kd.R_mono (Kd.R_far (p := ⟨gb605, 0, none⟩) (Kd.R_types HO603.out BK605.out (by decide)) (fun _ hk => hk.2) (.slice Ao15 t601.length co15)) (fun _ h_ => h_.1))) : p := h
theorem zq18_25_ {p : Prop} (h : p := by refine rr_ ?_; exact Kd.R_mono HO_694000.out (fun _ hk => ⟨hk.2, hk.1⟩)) : p := h
theorem zq18_26_ {p : Prop} (h : p := by refine rr_ ?_; exact Kd.R_mono HO_689000.out (fun _ hk => ⟨hk.2, hk.1⟩)) : p := h
theorem zq18_27_ {p : Prop} (h : p := by refine rr_ ?_; exact Kd.R_mono HO734.out (fun _ hk => ⟨hk.1.2, hk.2⟩)) : p := h
theorem zq18_28_ {p : Prop} (h : p := by exact rr_ HO724.out) : p := h
theorem zq18_29_ {p : Prop} (h : p := by simp only [putAll, Act.put, List.setIfInBounds_toArray, List.set_cons_zero, List.set_cons_succ]) : p := h
theorem zc18_0_ {p : Prop} (h : p := by repeat (first | exact (Kd.R_reads' HO_643000.out).2.2 | (with_reducible refine Kd.C_alloc ?_ _) | (with_reducible refine Kd.C_drewN ?_ _) | (with_reducible refine Kd.C_drew ?_))) : p := h
theorem zc18_1_ {p : Prop} (h : p := by repeat (first | exact (Kd.R_reads' HO_694000.out).2.2 | (with_reducible refine Kd.C_alloc ?_ _) | (with_reducible refine Kd.C_drewN ?_ _) | (with_reducible refine Kd.C_drew ?_))) : p := h
theorem zc18_2_ {p : Prop} (h : p := by repeat (first | exact (Kd.C_below HR1.out HB.out) | (with_reducible refine Kd.C_alloc ?_ _) | (with_reducible refine Kd.C_drewN ?_ _) | (with_reducible refine Kd.C_drew ?_))) : p := h
theorem zc18_3_ {p : Prop} (h : p := by repeat (first | exact (Kd.R_reads' HO640.out).2.2 | (with_reducible refine Kd.C_alloc ?_ _) | (with_reducible refine Kd.C_drewN ?_ _) | (with_reducible refine Kd.C_drew ?_))) : p := h
theorem zc18_4_ {p : Prop} (h : p := by repeat (first | exact (Kd.R_reads' HO645.out).2.2 | (with_reducible refine Kd.C_alloc ?_ _) | (with_reducible refine Kd.C_drewN ?_ _) | (with_reducible refine Kd.C_drew ?_))) : p := h
theorem zc18_5_ {p : Prop} (h : p := by repeat (first | exact (Kd.R_reads' HO676.out).2.2 | (with_reducible refine Kd.C_alloc ?_ _) | (with_reducible refine Kd.C_drewN ?_ _) | (with_reducible refine Kd.C_drew ?_))) : p := h
theorem zc18_6_ {p : Prop} (h : p := by repeat (first | exact (Kd.R_reads' HO681.out).2.2 | (with_reducible refine Kd.C_alloc ?_ _) | (with_reducible refine Kd.C_drewN ?_ _) | (with_reducible refine Kd.C_drew ?_))) : p := h
theorem zc18_7_ {p : Prop} (h : p := by repeat (first | exact (Kd.R_reads' HO691.out).2.2 | (with_reducible refine Kd.C_alloc ?_ _) | (with_reducible refine Kd.C_drewN ?_ _) | (with_reducible refine Kd.C_drew ?_))) : p := h
theorem zc18_8_ {p : Prop} (h : p := by repeat (first | exact (Kd.R_reads' HO696.out).2.2 | (with_reducible refine Kd.C_alloc ?_ _) | (with_reducible refine Kd.C_drewN ?_ _) | (with_reducible refine Kd.C_drew ?_))) : p := h
theorem zc18_9_ {p : Prop} (h : p := by repeat (first | exact HR0.out | (with_reducible refine Kd.C_alloc ?_ _) | (with_reducible refine Kd.C_drewN ?_ _) | (with_reducible refine Kd.C_drew ?_))) : p := h
theorem zc18_10_ {p : Prop} (h : p := by repeat (first | exact HR1.out | (with_reducible refine Kd.C_alloc ?_ _) | (with_reducible refine Kd.C_drewN ?_ _) | (with_reducible refine Kd.C_drew ?_))) : p := h
theorem undef_bool_ {b : Bool} (h : some undef = some (Value.bool b)) : False := by cases h
theorem dead2_ {r : Bool} {P : Prop} (H : some false = some r) (h : Aside0 (r = true)) : P := Bool.noConfusion ((Option.some.inj H).trans h.out)
theorem z18_0_ {p : Prop} (h : p := by repeat (first | (with_reducible first | exact HB.out | apply below_alloc | apply pw_below_drewN | apply below_drew1 | refine below_set ?_ GE672.out | refine below_set ?_ GE673.out | refine below_set ?_ GE678.out | refine below_set ?_ GE683.out | refine below_set ?_ GE688.out | refine below_set ?_ GE693.out | refine below_set ?_ GE698.out | refine below_set ?_ GE703.out | refine below_set ?_ GE711.out) | exact HB.out)) : p := h
theorem z18_1_ {p : Prop} (h : p := by (try simp only [List.map_toArray, List.map_cons, List.map_nil]); first | done | rfl | (simp only [List.length_drop, List.length_take]; rfl)) : p := h
theorem z18_2_ {p : Prop} (h : p := by exact b_ BK672.out) : p := h
theorem z18_3_ {p : Prop} (h : p := by exact b_ BK673.out) : p := h
theorem z18_4_ {p : Prop} (h : p := by exact b_ BK688.out) : p := h
theorem z18_5_ {p : Prop} (h : p := by exact b_ BK693.out) : p := h
theorem z18_6_ {p : Prop} (h : p := by exact b_ BK678.out) : p := h
theorem z18_7_ {p : Prop} (h : p := by exact b_ BK683.out) : p := h
theorem z18_8_ {p : Prop} (h : p := by exact b_ BK698.out) : p := h
theorem z18_9_ {p : Prop} (h : p := by exact rr_ HO668.out) : p := h
theorem z18_10_ {p : Prop} (h : p := by exact rr_ HO676.out) : p := h
theorem z18_11_ {p : Prop} (h : p := by exact b_ BK703.out) : p := h
theorem z18_12_ {p : Prop} (h : p := by exact rr_ HO681.out) : p := h
theorem z18_13_ {p : Prop} (h : p := by exact rr_ HO686.out) : p := h
theorem z18_14_ {p : Prop} (h : p := by exact rr_ HO691.out) : p := h
theorem z18_15_ {p : Prop} (h : p := by exact rr_ HO696.out) : p := h
theorem z18_16_ {p : Prop} (h : p := by exact b_ BK711.out) : p := h
theorem z18_17_ {p : Prop} (h : p := by repeat (first | (with_reducible first | exact HB.out | apply below_alloc | apply pw_below_drewN | apply below_drew1 | refine below_set ?_ GE672.out | refine below_set ?_ GE673.out | refine below_set ?_ GE678.out | refine below_set ?_ GE683.out | refine below_set ?_ GE688.out | refine below_set ?_ GE693.out | refine below_set ?_ GE698.out | refine below_set ?_ GE703.out) | exact HB.out)) : p := h
theorem z18_18_ {p : Prop} (h : p := by repeat (first | (with_reducible first | exact HB.out | apply below_alloc | apply pw_below_drewN | apply below_drew1 | refine below_set ?_ GE637.out | refine below_set ?_ GE642.out) | exact HB.out)) : p := h
theorem z18_20_ {p : Prop} (h : p := by repeat (first | (with_reducible first | exact HB.out | apply below_alloc | apply pw_below_drewN | apply below_drew1 | refine below_set ?_ GE605.out | refine below_set ?_ GE610.out) | exact HB.out)) : p := h
theorem z18_21_ {p : Prop} (h : p := by repeat (first | (with_reducible first | exact HB.out | apply below_alloc | apply pw_below_drewN | apply below_drew1 | refine below_set ?_ GE672.out | refine below_set ?_ GE673.out | refine below_set ?_ GE678.out | refine below_set ?_ GE683.out | refine below_set ?_ GE688.out | refine below_set ?_ GE693.out | refine below_set ?_ GE698.out) | exact HB.out)) : p := h
theorem z18_22_ {p : Prop} (h : p := by repeat (first | (with_reducible first | exact HB.out | apply below_alloc | apply pw_below_drewN | apply below_drew1 | refine below_set ?_ GE672.out | refine below_set ?_ GE673.out | refine below_set ?_ GE678.out | refine below_set ?_ GE683.out | refine below_set ?_ GE688.out | refine below_set ?_ GE693.out) | exact HB.out)) : p := h
theorem z18_23_ {p : Prop} (h : p := by repeat (first | (with_reducible first | exact HB.out | apply below_alloc | apply pw_below_drewN | apply below_drew1 | refine below_set ?_ GE688.out | refine below_set ?_ GE693.out) | exact HB.out)) : p := h
theorem z18_24_ {p : Prop} (h : p := by refine b_ ?_; refine blk_put (cs := #[.int .i64 t669, .int .i64 t670, .int .i64 0]) ?_ 2 _ rfl; refine b_ ?_; refine blk_put (cs := #[.int .i64 t669, .int .i64 0, .int .i64 0]) ?_ 1 _ rfl; refine b_ ?_; refine blk_put (cs := #[.int .i64 0, .int .i64 0, .int .i64 0]) ?_ 0 _ rfl; refine b_ ?_; refine blk_far ?_ NB673_672.out _; exact b_ BK673.out) : p := h
theorem z18_25_ {p : Prop} (h : p := by repeat (first | (with_reducible first | exact HB.out | apply below_alloc | apply pw_below_drewN | apply below_drew1 | refine below_set ?_ GE672.out | refine below_set ?_ GE673.out | refine below_set ?_ GE678.out | refine below_set ?_ GE683.out) | exact HB.out)) : p := h
theorem z18_26_ {p : Prop} (h : p := by repeat (first | (with_reducible first | exact HB.out | apply below_alloc | apply pw_below_drewN | apply below_drew1 | refine below_set ?_ GE672.out | refine below_set ?_ GE673.out | refine below_set ?_ GE678.out | refine below_set ?_ GE683.out | refine below_set ?_ GE688.out) | exact HB.out)) : p := h
theorem z18_27_ {p : Prop} (h : p := by repeat (first | (with_reducible first | exact HB.out | apply below_alloc | apply pw_below_drewN | apply below_drew1 | refine below_set ?_ GE672.out | refine below_set ?_ GE673.out | refine below_set ?_ GE678.out | refine below_set ?_ GE688.out | refine below_set ?_ GE693.out) | exact HB.out)) : p := h
theorem z18_28_ {p : Prop} (h : p := by exact b_ BK637.out) : p := h
theorem z18_29_ {p : Prop} (h : p := by exact b_ BK605.out) : p := h
theorem z18_30_ {p : Prop} (h : p := by repeat (first | (with_reducible first | exact HB.out | apply below_alloc | apply pw_below_drewN | apply below_drew1 | refine below_set ?_ GE672.out | refine below_set ?_ GE673.out | refine below_set ?_ GE678.out) | exact HB.out)) : p := h
theorem z18_31_ {p : Prop} (h : p := by repeat (first | (with_reducible first | exact HB.out | apply below_alloc | apply pw_below_drewN | apply below_drew1 | refine below_set ?_ GE688.out | refine below_set ?_ GE693.out | refine below_set ?_ GE736.out) | exact HB.out)) : p := h
theorem z18_32_ {p : Prop} (h : p := by exact rr_ HO_689000.out) : p := h
theorem z18_33_ {p : Prop} (h : p := by exact rr_ HO_694000.out) : p := h
theorem z18_34_ {p : Prop} (h : p := by exact b_ BK642.out) : p := h
theorem z18_35_ {p : Prop} (h : p := by repeat (first | (with_reducible first | exact HB.out | apply below_alloc | apply pw_below_drewN | apply below_drew1 | refine below_set ?_ GE672.out | refine below_set ?_ GE673.out) | exact HB.out)) : p := h
theorem z18_36_ {p : Prop} (h : p := by exact b_ BK610.out) : p := h
theorem z18_37_ {p : Prop} (h : p := by repeat (first | (with_reducible first | exact HB.out | apply below_alloc | apply pw_below_drewN | apply below_drew1 | refine below_set ?_ GE637.out | refine below_set ?_ GE642.out | refine below_set ?_ GE647.out) | exact HB.out)) : p := h
theorem z18_38_ {p : Prop} (h : p := by repeat (first | (with_reducible first | exact HB.out | apply below_alloc | apply pw_below_drewN | apply below_drew1 | refine below_set ?_ GE605.out) | exact HB.out)) : p := h
theorem z18_39_ {p : Prop} (h : p := by repeat (first | (with_reducible first | exact HB.out | apply below_alloc | apply pw_below_drewN | apply below_drew1 | refine below_set ?_ GE637.out) | exact HB.out)) : p := h
theorem z18_41_ {p : Prop} (h : p := by exact rr_ HO603.out) : p := h
theorem z18_42_ {p : Prop} (h : p := by exact rr_ HO608.out) : p := h
theorem z18_43_ {p : Prop} (h : p := by exact rr_ HO636.out) : p := h
theorem z18_44_ {p : Prop} (h : p := by exact rr_ HO640.out) : p := h
theorem z18_45_ {p : Prop} (h : p := by refine b_ ?_; refine blk_far ?_ NB673_678.out _; exact b_ BK673.out) : p := h
theorem z18_46_ {p : Prop} (h : p := by refine b_ ?_; refine blk_far ?_ NB673_683.out _; exact b_ BK673.out) : p := h
theorem z18_47_ {p : Prop} (h : p := by refine b_ ?_; refine blk_far ?_ NB673_688.out _; exact b_ BK673.out) : p := h
theorem z18_48_ {p : Prop} (h : p := by refine b_ ?_; refine blk_far ?_ NB673_693.out _; exact b_ BK673.out) : p := h
theorem z18_49_ {p : Prop} (h : p := by repeat (first | (with_reducible first | exact HB.out | apply below_alloc | apply pw_below_drewN | apply below_drew1 | refine below_set ?_ GE672.out) | exact HB.out)) : p := h
theorem z18_50_ {p : Prop} (h : p := by exact rr_ HO_673000.out) : p := h
theorem z18_51_ {p : Prop} (h : p := by exact rr_ HO_679000.out) : p := h
theorem z18_52_ {p : Prop} (h : p := by exact rr_ HO645.out) : p := h
theorem z18_53_ {p : Prop} (h : p := by exact b_ BK647.out) : p := h
theorem z18_54_ {p : Prop} (h : p := by exact b_ BK736.out) : p := h
theorem z18_55_ {p : Prop} (h : p := by exact rr_ HO_638000.out) : p := h
theorem z18_56_ {p : Prop} (h : p := by exact rr_ HO_643000.out) : p := h
theorem z18_57_ {p : Prop} (h : p := by exact rr_ HO654.out) : p := h

attribute [local go_sem high] eqA37
/-! ### laws_FnTicketsHidden: function 3 -/
mutual
def laws_FnTicketsHidden.j1 : Nat → List Int → Option (Bool)
 | 0, _ => none
 | k + 1, x1 => (spec_DrawHarderPuzzle.f k x1).bind fun t634 => ((impl_HarderPuzzle.f k t634).bind fun bt638 => ((spec_HarderPuzzle.f k t634).bind fun bt643 => ((impl_IsSolved.f k t634).bind fun bt648 => (if (bt638.2 != bt643.2) = true then (laws_FnTicketsHidden.j2 k x1 bt638.2 true t634 bt638.1) else ((laws_iPuzzle.f k bt638.1 bt643.1).bind fun t651 => (if t651 = true then (if bt648.2 = true then (laws_FnTicketsHidden.j2 k x1 bt638.2 (bt638.2 != bt648.1) t634 bt638.1) else (laws_FnTicketsHidden.j2 k x1 bt638.2 (bt638.2 != false) t634 bt638.1)) else (laws_FnTicketsHidden.j2 k x1 bt638.2 true t634 bt638.1)))))))
def laws_FnTicketsHidden.j2 : Nat → List Int → Bool → Bool → List (S37) → List (S37) → Option (Bool)
 | 0, _, _, _, _, _ => none
 | k + 1, x1, x33, x253, x638000, x643000 => if x253 = true then (some false) else (if x33 = true then ((impl_Solutions.f k x638000).bind fun bt652 => ((impl_Solutions.f k x643000).bind fun bt656 => ((impl_NeedlessClues.f k x643000).bind fun bt660 => (if bt652.2 = true then (if bt656.2 = true then ((laws_iTexts.f k bt652.1 bt656.1).bind fun t665 => (if t665 = true then (if bt660.2 = true then (if (bt660.1.length : Int) = 0 then (if (x643000.length : Int) > (x638000.length : Int) then (some false) else (laws_FnTicketsHidden.j3 k x1)) else (some false)) else (some false)) else (some false))) else (some false)) else (some false))))) else (laws_FnTicketsHidden.j3 k x1))
def laws_FnTicketsHidden.j3 : Nat → List Int → Option (Bool)
 | 0, _ => none
 | k + 1, x1 => (spec_DrawAddClue.f k x1).bind fun bt666 => ((impl_AddClue.f k bt666.1 bt666.2.1 bt666.2.2.1 bt666.2.2.2).bind fun bt674 => ((spec_AddClue.f k bt666.1 bt666.2.1 bt666.2.2.1 bt666.2.2.2).bind fun bt679 => ((spec_DrawDropClue.f k x1).bind fun bt684 => ((impl_DropClue.f k bt684.1 bt684.2).bind fun bt689 => ((spec_DropClue.f k bt684.1 bt684.2).bind fun bt694 => ((spec_DrawDoesFit.f k x1).bind fun bt699 => ((impl_DoesFit.f k bt699.1 bt699.2.1 bt699.2.2.1 bt699.2.2.2).bind fun bt704 => ((spec_DoesFit.f k bt699.1 bt699.2.1 bt699.2.2.1 bt699.2.2.2).bind fun bt706 => ((spec_DrawIsClue.f k x1).bind fun bt708 => (if (bt674.2 != bt679.2) = true then (laws_FnTicketsHidden.j4 k bt674.2 bt684.2 bt689.2 true bt666.1 bt666.2.1 bt666.2.2.1 bt666.2.2.2 bt674.1 bt684.1 bt689.1) else ((laws_iPuzzle.f k bt674.1 bt679.1).bind fun t717 => (if t717 = true then (if (bt689.2 != bt694.2) = true then (laws_FnTicketsHidden.j4 k bt674.2 bt684.2 bt689.2 true bt666.1 bt666.2.1 bt666.2.2.1 bt666.2.2.2 bt674.1 bt684.1 bt689.1) else ((laws_iPuzzle.f k bt689.1 bt694.1).bind fun t718 => (if t718 = true then (if (bt704.2 != bt706.2) = true then (laws_FnTicketsHidden.j4 k bt674.2 bt684.2 bt689.2 true bt666.1 bt666.2.1 bt666.2.2.1 bt666.2.2.2 bt674.1 bt684.1 bt689.1) else (if (bt704.1 != bt706.1) = true then (laws_FnTicketsHidden.j4 k bt674.2 bt684.2 bt689.2 true bt666.1 bt666.2.1 bt666.2.2.1 bt666.2.2.2 bt674.1 bt684.1 bt689.1) else ((impl_IsClue.f k bt708.1 bt708.2.1 bt708.2.2).bind fun t719 => ((spec_IsClue.f bt708.1 bt708.2.1 bt708.2.2).bind fun t720 => (if (t719 != t720) = true then (laws_FnTicketsHidden.j4 k bt674.2 bt684.2 bt689.2 true bt666.1 bt666.2.1 bt666.2.2.1 bt666.2.2.2 bt674.1 bt684.1 bt689.1) else (if bt704.2 = true then ((impl_IsClue.f k bt699.1 bt699.2.1 bt699.2.2.1).bind fun t721 => (laws_FnTicketsHidden.j4 k bt674.2 bt684.2 bt689.2 (!t721) bt666.1 bt666.2.1 bt666.2.2.1 bt666.2.2.2 bt674.1 bt684.1 bt689.1)) else (laws_FnTicketsHidden.j4 k bt674.2 bt684.2 bt689.2 false bt666.1 bt666.2.1 bt666.2.2.1 bt666.2.2.2 bt674.1 bt684.1 bt689.1))))))) else (laws_FnTicketsHidden.j4 k bt674.2 bt684.2 bt689.2 true bt666.1 bt666.2.1 bt666.2.2.1 bt666.2.2.2 bt674.1 bt684.1 bt689.1)))) else (laws_FnTicketsHidden.j4 k bt674.2 bt684.2 bt689.2 true bt666.1 bt666.2.1 bt666.2.2.1 bt666.2.2.2 bt674.1 bt684.1 bt689.1)))))))))))))
def laws_FnTicketsHidden.j4 : Nat → Bool → Int → Bool → Bool → List (S37) → Int → Int → Int → List (S37) → List (S37) → List (S37) → Option (Bool)
 | 0, _, _, _, _, _, _, _, _, _, _, _ => none
 | k + 1, x47, x51, x53, x397, x673000, x674000, x674001, x674002, x679000, x689000, x694000 => if x397 = true then (some false) else (if x47 = true then ((impl_DropClue.f k x679000 (x673000.length : Int)).bind fun bt722 => (if bt722.2 = true then ((laws_iPuzzle.f k bt722.1 x673000).bind fun t729 => (if t729 = true then (if 0 ≤ (x673000.length : Int) then (if (x673000.length : Int) < (x679000.length : Int) then (if (!(((rd_T37 x679000 (x673000.length : Int)).f0) == x674000) || (!(((rd_T37 x679000 (x673000.length : Int)).f1) == x674001) || (!(((rd_T37 x679000 (x673000.length : Int)).f2) == x674002)))) = true then (some false) else (laws_FnTicketsHidden.j5 k x51 x53 x689000 x694000)) else (none)) else (none)) else (some false))) else (some false))) else (laws_FnTicketsHidden.j5 k x51 x53 x689000 x694000))
def laws_FnTicketsHidden.j5 : Nat → Int → Bool → List (S37) → List (S37) → Option (Bool)
 | 0, _, _, _, _ => none
 | k + 1, x51, x53, x689000, x694000 => if x53 = true then (laws_FnTicketsHidden.j6 k x51 (x51 == (wrap64 ((x689000.length : Int) - 1))) x689000 x694000) else (laws_FnTicketsHidden.j6 k x51 false x689000 x694000)
def laws_FnTicketsHidden.j6 : Nat → Int → Bool → List (S37) → List (S37) → Option (Bool)
 | 0, _, _, _, _ => none
 | k + 1, x51, x434, x689000, x694000 => if x434 = true then (if 0 ≤ x51 then (if x51 < (x689000.length : Int) then ((impl_AddClue.f k x694000 ((rd_T37 x689000 x51).f0) ((rd_T37 x689000 x51).f1) ((rd_T37 x689000 x51).f2)).bind fun bt732 => (if bt732.2 = true then ((laws_iPuzzle.f k bt732.1 x689000).bind fun t737 => (some t737)) else (some false))) else (none)) else (none)) else (some true)
def laws_FnTicketsHidden.l0 : Nat → List Int → ByteArray → List (S37) → Int → Int → Option (Bool)
 | 0, _, _, _, _, _ => none
 | k + 1, x1, x5, x201, x202, x203 => if x203 < x202 then (if 0 ≤ x203 then (if x203 < (x201.length : Int) then ((impl_DoesFit.f k ((rd_T37 x201 x203).f0) ((rd_T37 x201 x203).f1) ((rd_T37 x201 x203).f2) x5).bind fun bt632 => (if bt632.2 = true then (if bt632.1 = true then (laws_FnTicketsHidden.l0 k x1 x5 x201 x202 (wrap64 (x203 + 1))) else (some false)) else (some false))) else (none)) else (none)) else (laws_FnTicketsHidden.j1 k x1)
end
def laws_FnTicketsHidden.f (k : Nat) (l0 : List Int) (l1 : List Int) : Option (Bool) := (laws_big.f l0 l1).bind fun t597 => (if t597 = true then (some true) else ((spec_DrawMakePuzzle.f k l0).bind fun bt598 => ((impl_MakePuzzle.f k bt598.1 bt598.2.1 bt598.2.2).bind fun bt601 => ((spec_MakePuzzle.f k bt598.1 bt598.2.1 bt598.2.2).bind fun bt606 => (if (bt601.2 != bt606.2) = true then (some false) else ((laws_iPuzzle.f k bt601.1 bt606.1).bind fun t612 => (if t612 = true then (if bt601.2 = true then ((impl_HalfSums.f k bt598.1).bind fun bt613 => ((impl_DoesFit.f k 0 0 bt613.1 bt598.1).bind fun bt616 => ((impl_DoesFit.f k 0 1 bt613.2.1 bt598.1).bind fun bt618 => ((impl_IsLucky.f k bt598.1).bind fun bt620 => ((impl_DoesFit.f k 2 0 1 bt598.1).bind fun bt622 => ((impl_NumberOfTicket.f k bt598.1).bind fun bt624 => ((impl_DoesFit.f k 5 0 7 bt598.1).bind fun bt626 => ((impl_IsPuzzle.f k bt601.1).bind fun t629 => (if t629 = true then (if (bt601.1.length : Int) = bt598.2.1 then (if bt613.2.2 = true then (if bt616.2 = true then (if bt616.1 = true then (if bt618.2 = true then (if bt618.1 = true then (if bt620.2 = true then (if bt622.2 = true then (if (bt622.1 != bt620.1) = true then (some false) else (if bt624.2 = true then (if bt626.2 = true then (if (bt626.1 != ((Int.tmod bt624.1 7) == 0)) = true then (some false) else (laws_FnTicketsHidden.l0 k l1 bt598.1 bt601.1 (bt601.1.length : Int) 0)) else (some false)) else (some false))) else (some false)) else (some false)) else (some false)) else (some false)) else (some false)) else (some false)) else (some false)) else (some false)) else (some false)))))))))) else (laws_FnTicketsHidden.j1 k l1)) else (some false))))))))
theorem laws_FnTicketsHidden.j2_dead {k : Nat} {x1 : List Int} {x33 : Bool} {x638000 : List (S37)} {x643000 : List (S37)} {r : Bool} {P : Prop} (H : laws_FnTicketsHidden.j2 k x1 x33 true x638000 x643000 = some r) (h : Aside0 (r = true)) : P := by
 cases k with
 | zero => exact none_ (by simp only [laws_FnTicketsHidden.j2]) H
 | succ k => exact dead_ (by simp only [laws_FnTicketsHidden.j2]; first | exact if_pos rfl | exact if_pos trivial) H h
theorem laws_FnTicketsHidden.j4_dead {k : Nat} {x47 : Bool} {x51 : Int} {x53 : Bool} {x673000 : List (S37)} {x674000 : Int} {x674001 : Int} {x674002 : Int} {x679000 : List (S37)} {x689000 : List (S37)} {x694000 : List (S37)} {r : Bool} {P : Prop} (H : laws_FnTicketsHidden.j4 k x47 x51 x53 true x673000 x674000 x674001 x674002 x679000 x689000 x694000 = some r) (h : Aside0 (r = true)) : P := by
 cases k with
 | zero => exact none_ (by simp only [laws_FnTicketsHidden.j4]) H
 | succ k => exact dead_ (by simp only [laws_FnTicketsHidden.j4]; first | exact if_pos rfl | exact if_pos trivial) H h
def laws_FnTicketsHidden.T47 : Bool × List (List Nat × List Nat) := (true, [([], []), ([], []), ([0, 1], [0, 1]), ([2], [2]), ([3], [3]), ([3], [3]), ([4, 5, 3, 3], [3, 4, 5]), ([6, 3], [3, 6]), ([3, 7], [3, 7]), ([8, 6], [8]), ([9], [9]), ([9], [9]), ([10, 11, 9], [9, 10, 11]), ([9, 12], [9, 12]), ([13, 9], [13]), ([14], [14]), ([14], [14]), ([15, 16, 14, 14], [14, 15, 16]), ([17, 14], [14, 17]), ([14, 18], [14, 18]), ([19, 17], [19]), ([20], [20]), ([20], [20]), ([21, 22, 20], [20, 21, 22]), ([20, 23], [20, 23]), ([24, 20], [24]), ([25], [25]), ([25], [25]), ([26, 27, 25], [25, 26, 27]), ([25, 28], [25, 28]), ([29, 25], [29]), ([30], [30]), ([31, 30, 30], [30, 31]), ([30], [30]), ([33, 32, 30], [30, 33]), ([32, 34, 30], [30, 32, 34]), ([30, 35], [30, 35]), ([36, 34], [36]), ([37], [37]), ([38, 37, 37], [37, 38]), ([39], [39]), ([40, 39, 39], [39, 40]), ([41, 39], [39, 41]), ([39, 42, 37], [37, 39, 42]), ([37, 43], [37, 43])])
def laws_FnTicketsHidden.B47 : List Nat := [0, 0, 3, 7, 15, 15, 63, 127, 255, 511, 1023, 1023, 4095, 8191, 16383, 32767, 32767, 131071, 262143, 524287, 1048575, 2097151, 2097151, 8388607, 16777215, 33554431, 67108863, 67108863, 268435455, 536870911, 1073741823, 2147483647, 4294967295, 2147483647, 17179869183, 34359738367, 68719476735, 137438953471, 274877906943, 549755813887, 1099511627775, 2199023255551, 4398046511103, 8796093022207, 17592186044415]
theorem laws_FnTicketsHidden.tab47 : rtab .any (opsOf Tryz.f3 47) = laws_FnTicketsHidden.T47 := by kernel_rfl
theorem laws_FnTicketsHidden.bits47 : waitsOk laws_FnTicketsHidden.T47.2 laws_FnTicketsHidden.B47 = true := by kernel_rfl
def laws_FnTicketsHidden.T51 : Bool × List (List Nat × List Nat) := (true, [([], []), ([0], [0]), ([1], [1]), ([2], [2]), ([2], [2]), ([3, 4, 2, 2], [2, 3, 4]), ([5, 2], [2, 5]), ([2, 6], [2, 6]), ([7, 5], [7]), ([8], [8]), ([9, 8], [8, 9]), ([8], [8]), ([11, 8], [8, 11]), ([12, 8], [8, 12]), ([10, 13, 8], [8, 10, 13]), ([14, 8], [8, 14]), ([8], [8]), ([15, 16, 8], [8, 15, 16]), ([8, 17], [8, 17])])
def laws_FnTicketsHidden.B51 : List Nat := [0, 1, 3, 7, 7, 31, 63, 127, 255, 511, 1023, 511, 2559, 6655, 16383, 32767, 511, 131071, 262143]
theorem laws_FnTicketsHidden.tab51 : rtab .any (opsOf Tryz.f3 51) = laws_FnTicketsHidden.T51 := by kernel_rfl
theorem laws_FnTicketsHidden.bits51 : waitsOk laws_FnTicketsHidden.T51.2 laws_FnTicketsHidden.B51 = true := by kernel_rfl
def laws_FnTicketsHidden.T54 : Bool × List (List Nat × List Nat) := (true, [([], []), ([], []), ([1], [1]), ([], []), ([2, 3], [2, 3]), ([4], [4]), ([0, 5], [0, 5]), ([6], [6]), ([7], [7]), ([7], [7]), ([], []), ([10, 8, 6, 0, 1, 2, 3, 4, 5, 6, 7, 8, 10], [8, 10]), ([9, 11, 0, 1, 2, 3, 4, 5, 6, 7, 8, 9, 10, 11], [9])])
def laws_FnTicketsHidden.B54 : List Nat := [0, 0, 2, 0, 14, 30, 63, 127, 255, 255, 0, 1535, 4095]
theorem laws_FnTicketsHidden.tab54 : rtab .any (opsOf Tryz.f3 54) = laws_FnTicketsHidden.T54 := by kernel_rfl
theorem laws_FnTicketsHidden.bits54 : waitsOk laws_FnTicketsHidden.T54.2 laws_FnTicketsHidden.B54 = true := by kernel_rfl
set_option maxHeartbeats 64000000 in
set_option maxRecDepth 100000 in
theorem laws_FnTicketsHidden.calls (k : Nat) (A0 : Option Addr) (c0 : Nat) (l0 : List Int) (A1 : Option Addr) (c1 : Nat) (l1 : List Int) (r : Bool) (w : World) (hr0 : Kd.C (Kd.int .u8) w A0 l0.length l0) (hc0 : l0.length ≤ c0) (hr1 : Kd.C (Kd.int .u8) w A1 l1.length l1) (hc1 : l1.length ≤ c1) (hr_ : Aside0 (r = true)) (h : laws_FnTicketsHidden.f k l0 l1 = some r) :
 Calls Tryz.prog 3 #[.slice A0 l0.length c0, .slice A1 l1.length c1] w fun e w' => e = .returned (.bool r) ∧ Below w.heap.size w w' := by
 have hu28 := Tryz.underlying28
 have hu37 := Tryz.underlying37
 have HR0 := Aside0.mk hr0
 have HC0 := Aside0.mk hc0
 clear hr0 hc0
 have HR1 := Aside0.mk hr1
 have HC1 := Aside0.mk hc1
 clear hr1 hc1
 have HB := Aside0.mk (Below.refl w.heap.size w)
 unfold laws_FnTicketsHidden.f at h
 have H := h
 clear h
 replace H := bd_ H; obtain ⟨t597, A3, H⟩ := H
 by_cases c4 : t597 = true
 · subst c4
   rw [if_pos rfl] at H
   as_aux_lemma =>
    obtain rfl := Option.some.inj H
    go_enter Tryz.func3, Tryz.ntmps3
    go_wp2_with (first | ((with_reducible refine gc_ 5 rfl ?_); refine gL_ 69 Tryz.func5 #[.slice A0 l0.length c0, .slice A1 l1.length c1] ?_; (with_reducible refine (laws_big.calls _ _ l0 _ _ l1 true _ ?side1 ?side2 ?side3 ?side4 A3.out).mono ?_); (case side1 => exact zc18_9_); (case side2 => exact HC0.out); (case side3 => exact zc18_10_); (case side4 => exact HC1.out); rintro e w' ⟨rfl, ⟨nd, rfl⟩⟩; refine ⟨_, rfl, ?_⟩))
    go_ret
    exact ⟨zL_, zB_⟩
 replace H := bf_ c4 H; obtain ⟨rfl, H⟩ := H
 as_aux_lemma =>
 replace H := bd_ H; obtain ⟨⟨t598, t599, t600⟩, A5, H⟩ := H
 dsimp only at H
 replace H := bd_ H; obtain ⟨⟨t601, t604⟩, A6, H⟩ := H
 dsimp only at H
 replace H := bd_ H; obtain ⟨⟨t606, t609⟩, A7, H⟩ := H
 dsimp only at H
 by_cases c8 : (t604 != t609) = true
 · exact dead_ (if_pos c8) H hr_
 rw [if_neg c8] at H
 have c8b0 : (t604 != t609) = false := by simpa using c8
 (try (have c8b1 : decide (t604 = t609) = true := by simpa using c8))
 (try (have c8b2 : (t604 == t609) = true := by simpa using c8))
 clear c8
 replace H := bd_ H; obtain ⟨t612, A9, H⟩ := H
 as_aux_lemma =>
 by_cases c10 : t612 = true
 rotate_left
 · replace H := bf_ c10 H; obtain ⟨rfl, H⟩ := H
   as_aux_lemma =>
    exact dead2_ H hr_
 subst c10
 rw [if_pos rfl] at H
 have HC11 := Aside0.mk H
 clear H
 go_enter Tryz.func3, Tryz.ntmps3
 go_upto_if 99 with (first | ((with_reducible refine gc_ 5 rfl ?_); refine gL_ 69 Tryz.func5 #[.slice A0 l0.length c0, .slice A1 l1.length c1] ?_; (with_reducible refine (laws_big.calls _ _ l0 _ _ l1 false _ ?side1 ?side2 ?side3 ?side4 A3.out).mono ?_); (case side1 => exact zc18_9_); (case side2 => exact HC0.out); (case side3 => exact zc18_10_); (case side4 => exact HC1.out); rintro e w' ⟨rfl, ⟨nd, rfl⟩⟩; refine ⟨_, rfl, ?_⟩) | ((with_reducible refine gc_ 6 rfl ?_); refine gL_ 72 Tryz.func6 #[.slice A0 l0.length c0] ?_; (with_reducible refine (spec_DrawMakePuzzle.calls k _ _ l0 t598 t599 t600 _ ?side1 ?side2 A5.out).mono ?_); (case side1 => exact zc18_9_); (case side2 => exact HC0.out); rintro e w12 ⟨rfl, hb⟩; refine ⟨_, rfl, ?_⟩; replace HB := Aside0.mk (below_step zB_ hb)) | ((with_reducible refine gc_ 7 rfl ?_); refine gL_ 80 Tryz.func7 #[.string t598, .int .i64 t599, .int .i64 t600] ?_; (with_reducible refine (impl_MakePuzzle.calls k t598 t599 t600 t601 t604 _ A6.out).mono ?_); rintro e w13 ⟨v602, rfl, ho0, hb⟩; refine ⟨_, rfl, ?_⟩; have HO603 := Aside0.mk (Kd.R_lower ho0 (below_size zB_)); replace HB := Aside0.mk (below_step zB_ hb)) | ((with_reducible refine gate_dst (N := 8) rfl ?_); refine bxg_ 8 #[.slice none 0 0] 28 ?_; intro gb605 hg w14 hbox hb; replace HO603 := Aside0.mk (Kd.R_below z18_41_ hb); have BK605 := Aside0.mk (hbox); have GW605 : Aside0 (w.heap.size ≤ gb605) := bs_ hg zB_; have GE605 := GW605; replace HB := Aside0.mk (below_step zB_ hb); clear hb hbox hg; obtain ⟨Ao15, co15, eo15⟩ := Kd.R_slice HO603.out; subst eo15; have hcz16_0 : w14.cell? ⟨gb605, 0, none⟩ = some (.slice none 0 0) := (blk_cell BK605.out 0).trans rfl; have hfz16_0 := blk_frozen BK605.out 0) | ((with_reducible refine gc_ 8 rfl ?_); refine gL_ 87 Tryz.func8 #[.string t598, .int .i64 t599, .int .i64 t600] ?_; (with_reducible refine (spec_MakePuzzle.calls k t598 t599 t600 t606 t609 _ A7.out).mono ?_); rintro e w17 ⟨v607, rfl, ho0, hb⟩; refine ⟨_, rfl, ?_⟩; have HO608 := Aside0.mk (Kd.R_lower (Kd.R_new' ho0 (Kd.R_lt zq18_24_)) (below_size z18_38_)); replace HO603 := Aside0.mk (Kd.R_elder' zq18_24_ (Kd.R_base ho0) hb); replace BK605 := Aside0.mk (blk_below (g := gb605) (o := .cells #[.slice Ao15 t601.length co15] 28 (0, 0)) (by refine b_ ?_; refine blk_put (cs := #[.slice none 0 0]) ?_ 0 _ rfl; exact b_ BK605.out) hb); replace HB := Aside0.mk (below_step z18_38_ hb)) | ((with_reducible refine gate_dst (N := 10) rfl ?_); refine bxg_ 10 #[.slice none 0 0] 28 ?_; intro gb610 hg w18 hbox hb; replace HO603 := Aside0.mk (Kd.R_below z18_41_ hb); replace HO608 := Aside0.mk (Kd.R_below z18_42_ hb); have BK610 := Aside0.mk (hbox); have GW610 : Aside0 (w.heap.size ≤ gb610) := bs_ hg z18_38_; have GE610 := GW610; replace HB := Aside0.mk (below_step z18_38_ hb); have NB605_610 := nl_ BK605 z18_29_ hg; have NB610_605 := ns_ NB605_610; replace BK605 := bb_ BK605 z18_29_ hb; clear hb hbox hg; obtain ⟨Ao19, co19, eo19⟩ := Kd.R_slice HO608.out; subst eo19; have hnb20 := NB610_605.out; have hnc20 := NB605_610.out; have hcz21_0 : w18.cell? ⟨gb610, 0, none⟩ = some (.slice none 0 0) := (blk_cell BK610.out 0).trans rfl; have hfz21_0 := blk_frozen BK610.out 0; have hcz22_0 : w18.cell? ⟨gb605, 0, none⟩ = some (.slice Ao15 t601.length co15) := (blk_cell BK605.out 0).trans rfl; have hfz22_0 := blk_frozen BK605.out 0) | (go_at_call 9; (with_reducible refine (laws_iPuzzle.calls k _ _ t601 _ _ t606 true _ ?side1 ?side2 ?side3 ?side4 A9.out).mono ?_); (case side1 => refine (Kd.R_reads' (e := 37) (base := w.heap.size) (ok := fun k_ => (True ∧ some k_ ≠ (.slice Ao19 t606.length co19 : Value).ownBlock)) (n := t601.length) (c := co15) ?_).2.2; exact zq18_23_); (case side2 => exact (Kd.R_reads' HO603.out).2.1); (case side3 => refine (Kd.R_reads' (e := 37) (base := w.heap.size) (ok := fun k_ => (True ∧ some k_ ≠ (.slice Ao15 t601.length co15 : Value).ownBlock)) (n := t606.length) (c := co19) ?_).2.2; exact zq18_22_); (case side4 => exact (Kd.R_reads' HO608.out).2.1); rintro e w23 ⟨rfl, hb⟩; replace HO603 := Aside0.mk (Kd.R_below zq18_23_ hb); replace HO608 := Aside0.mk (Kd.R_below zq18_22_ hb); replace BK605 := bb_ BK605 (by refine b_ ?_; refine blk_far ?_ NB605_610.out _; exact b_ BK605.out) hb; replace BK610 := Aside0.mk (blk_below (g := gb610) (o := .cells #[.slice Ao19 t606.length co19] 28 (0, 0)) (by refine b_ ?_; refine blk_put (cs := #[.slice none 0 0]) ?_ 0 _ rfl; exact b_ BK610.out) hb); replace HB := Aside0.mk (below_step z18_20_ hb)))
 (try simp only [Act.put, List.setIfInBounds_toArray, List.set_cons_zero, List.set_cons_succ])
 go_cut [] from 8 to 219 (fun wc => ∃ (kq : Nat), Aside0 (laws_FnTicketsHidden.j1 kq l1 = some r) ∧ Aside0 (kq ≤ k) ∧ Aside0 (Below w.heap.size w wc))
 case first =>
  as_aux_lemma =>
  have H := HC11.out
  clear HC11
  by_cases c24 : t604 = true
  rotate_left
  · replace H := bf_ c24 H; obtain ⟨rfl, H⟩ := H
    as_aux_lemma =>
     have H' := Aside0.mk H
     clear H
     go_wp2
     try any_goals (exfalso; exact undef_bool_ (by with_reducible assumption))
     go_meet
     case rel => exact ⟨_, H', ⟨by first | omega | exact Nat.le_refl _⟩, ⟨by repeat (first | (with_reducible first | exact HB.out | apply below_alloc | apply pw_below_drewN | apply below_drew1 | refine below_set ?_ GE605.out | refine below_set ?_ GE610.out) | exact HB.out)⟩⟩
  subst c24
  rw [if_pos rfl] at H
  replace H := bd_ H; obtain ⟨⟨t613, t614, t615⟩, A25, H⟩ := H
  dsimp only at H
  replace H := bd_ H; obtain ⟨⟨t616, t617⟩, A26, H⟩ := H
  dsimp only at H
  replace H := bd_ H; obtain ⟨⟨t618, t619⟩, A27, H⟩ := H
  dsimp only at H
  replace H := bd_ H; obtain ⟨⟨t620, t621⟩, A28, H⟩ := H
  dsimp only at H
  replace H := bd_ H; obtain ⟨⟨t622, t623⟩, A29, H⟩ := H
  dsimp only at H
  as_aux_lemma =>
  replace H := bd_ H; obtain ⟨⟨t624, t625⟩, A30, H⟩ := H
  dsimp only at H
  replace H := bd_ H; obtain ⟨⟨t626, t627⟩, A31, H⟩ := H
  dsimp only at H
  replace H := bd_ H; obtain ⟨t629, A32, H⟩ := H
  by_cases c33 : t629 = true
  rotate_left
  · replace H := bf_ c33 H; obtain ⟨rfl, H⟩ := H
    as_aux_lemma =>
     exact dead2_ H hr_
  subst c33
  rw [if_pos rfl] at H
  replace H := dg_ H hr_; obtain ⟨c34, H⟩ := H
  have c34b0 : ((t601.length : Int) == t599) = true := beq_iff_eq.mpr c34
  have c34b1 : ((t601.length : Int) != t599) = false := bne_eq_false_iff_eq.mpr c34
  clear c34
  (first | rw [c34b0] | (simp only [i64_w, i32_w]; rw [c34b0]) | skip)
  by_cases c35 : t615 = true
  rotate_left
  · replace H := bf_ c35 H; obtain ⟨rfl, H⟩ := H
    as_aux_lemma =>
     exact dead2_ H hr_
  subst c35
  rw [if_pos rfl] at H
  by_cases c36 : t617 = true
  rotate_left
  · replace H := bf_ c36 H; obtain ⟨rfl, H⟩ := H
    as_aux_lemma =>
     exact dead2_ H hr_
  subst c36
  rw [if_pos rfl] at H
  by_cases c37 : t616 = true
  rotate_left
  · replace H := bf_ c37 H; obtain ⟨rfl, H⟩ := H
    as_aux_lemma =>
     exact dead2_ H hr_
  subst c37
  rw [if_pos rfl] at H
  by_cases c38 : t619 = true
  rotate_left
  · replace H := bf_ c38 H; obtain ⟨rfl, H⟩ := H
    as_aux_lemma =>
     exact dead2_ H hr_
  subst c38
  rw [if_pos rfl] at H
  by_cases c39 : t618 = true
  rotate_left
  · replace H := bf_ c39 H; obtain ⟨rfl, H⟩ := H
    as_aux_lemma =>
     exact dead2_ H hr_
  subst c39
  rw [if_pos rfl] at H
  by_cases c40 : t621 = true
  rotate_left
  · replace H := bf_ c40 H; obtain ⟨rfl, H⟩ := H
    as_aux_lemma =>
     exact dead2_ H hr_
  subst c40
  rw [if_pos rfl] at H
  by_cases c41 : t623 = true
  rotate_left
  · replace H := bf_ c41 H; obtain ⟨rfl, H⟩ := H
    as_aux_lemma =>
     exact dead2_ H hr_
  subst c41
  rw [if_pos rfl] at H
  by_cases c42 : (t622 != t620) = true
  · exact dead_ (if_pos c42) H hr_
  rw [if_neg c42] at H
  have c42b0 : (t622 != t620) = false := by simpa using c42
  (try (have c42b1 : decide (t622 = t620) = true := by simpa using c42))
  (try (have c42b2 : (t622 == t620) = true := by simpa using c42))
  clear c42
  by_cases c43 : t625 = true
  rotate_left
  · replace H := bf_ c43 H; obtain ⟨rfl, H⟩ := H
    as_aux_lemma =>
     exact dead2_ H hr_
  subst c43
  rw [if_pos rfl] at H
  by_cases c44 : t627 = true
  rotate_left
  · replace H := bf_ c44 H; obtain ⟨rfl, H⟩ := H
    as_aux_lemma =>
     exact dead2_ H hr_
  subst c44
  rw [if_pos rfl] at H
  by_cases c45 : (t626 != ((Int.tmod t624 7) == 0)) = true
  · exact dead_ (if_pos c45) H hr_
  rw [if_neg c45] at H
  have c45b0 : (t626 != ((Int.tmod t624 7) == 0)) = false := by simpa using c45
  (try (have c45b1 : decide (t626 = ((Int.tmod t624 7) == 0)) = true := by simpa using c45))
  (try (have c45b2 : (t626 == ((Int.tmod t624 7) == 0)) = true := by simpa using c45))
  clear c45
  have H' := Aside0.mk H
  clear H
  go_wp2_with (first | ((with_reducible refine gc_ 10 rfl ?_); refine gL_ 102 Tryz.func10 #[.string t598] ?_; (with_reducible refine (impl_HalfSums.calls k t598 t613 t614 true _ A25.out).mono ?_); rintro e w' ⟨rfl, ⟨nd, rfl⟩⟩; refine ⟨_, rfl, ?_⟩) | ((with_reducible refine gc_ 11 rfl ?_); refine gL_ 110 Tryz.func11 #[.agg #[.int .i64 0, .int .i64 0, .int .i64 t613], .string t598] ?_; (with_reducible refine (impl_DoesFit.calls k 0 0 t613 t598 true true _ A26.out).mono ?_); rintro e w46 ⟨rfl, hb⟩; refine ⟨_, rfl, ?_⟩; replace HO603 := Aside0.mk (Kd.R_below z18_41_ hb); replace HO608 := Aside0.mk (Kd.R_below z18_42_ hb); replace BK605 := bb_ BK605 z18_29_ hb; replace BK610 := bb_ BK610 z18_36_ hb; replace HB := Aside0.mk (below_step z18_20_ hb)) | ((with_reducible refine gc_ 11 rfl ?_); refine gL_ 117 Tryz.func11 #[.agg #[.int .i64 0, .int .i64 1, .int .i64 t614], .string t598] ?_; (with_reducible refine (impl_DoesFit.calls k 0 1 t614 t598 true true _ A27.out).mono ?_); rintro e w47 ⟨rfl, hb⟩; refine ⟨_, rfl, ?_⟩; replace HO603 := Aside0.mk (Kd.R_below z18_41_ hb); replace HO608 := Aside0.mk (Kd.R_below z18_42_ hb); replace BK605 := bb_ BK605 z18_29_ hb; replace BK610 := bb_ BK610 z18_36_ hb; replace HB := Aside0.mk (below_step z18_20_ hb)) | ((with_reducible refine gc_ 12 rfl ?_); refine gL_ 122 Tryz.func12 #[.string t598] ?_; (with_reducible refine (impl_IsLucky.calls k t598 t620 true _ A28.out).mono ?_); rintro e w' ⟨rfl, ⟨nd, rfl⟩⟩; refine ⟨_, rfl, ?_⟩) | ((with_reducible refine gc_ 11 rfl ?_); refine gL_ 128 Tryz.func11 #[.agg #[.int .i64 2, .int .i64 0, .int .i64 1], .string t598] ?_; (with_reducible refine (impl_DoesFit.calls k 2 0 1 t598 t622 true _ A29.out).mono ?_); rintro e w48 ⟨rfl, hb⟩; refine ⟨_, rfl, ?_⟩; replace HO603 := Aside0.mk (Kd.R_below z18_41_ hb); replace HO608 := Aside0.mk (Kd.R_below z18_42_ hb); replace BK605 := bb_ BK605 z18_29_ hb; replace BK610 := bb_ BK610 z18_36_ hb; replace HB := Aside0.mk (below_step z18_20_ hb)) | ((with_reducible refine gc_ 13 rfl ?_); refine gL_ 133 Tryz.func13 #[.string t598] ?_; (with_reducible refine (impl_NumberOfTicket.calls k t598 t624 true _ A30.out).mono ?_); rintro e w' ⟨rfl, ⟨nd, rfl⟩⟩; refine ⟨_, rfl, ?_⟩) | ((with_reducible refine gc_ 11 rfl ?_); refine gL_ 139 Tryz.func11 #[.agg #[.int .i64 5, .int .i64 0, .int .i64 7], .string t598] ?_; (with_reducible refine (impl_DoesFit.calls k 5 0 7 t598 t626 true _ A31.out).mono ?_); rintro e w49 ⟨rfl, hb⟩; refine ⟨_, rfl, ?_⟩; replace HO603 := Aside0.mk (Kd.R_below z18_41_ hb); replace HO608 := Aside0.mk (Kd.R_below z18_42_ hb); replace BK605 := bb_ BK605 z18_29_ hb; replace BK610 := bb_ BK610 z18_36_ hb; replace HB := Aside0.mk (below_step z18_20_ hb); have hnb50 := NB605_610.out; have hnc50 := NB610_605.out; have hcz51_0 : w49.cell? ⟨gb605, 0, none⟩ = some (.slice Ao15 t601.length co15) := (blk_cell BK605.out 0).trans rfl; have hfz51_0 := blk_frozen BK605.out 0) | ((with_reducible refine gc_ 14 rfl ?_); refine gL_ 143 Tryz.func14 #[.agg #[.slice Ao15 t601.length co15]] ?_; (with_reducible refine (impl_IsPuzzle.calls k _ _ t601 true _ ?side1 ?side2 A32.out).mono ?_); (case side1 => repeat (first | exact (Kd.R_reads' HO603.out).2.2 | (with_reducible refine Kd.C_alloc ?_ _) | (with_reducible refine Kd.C_drewN ?_ _) | (with_reducible refine Kd.C_drew ?_))); (case side2 => exact (Kd.R_reads' HO603.out).2.1); rintro e w52 ⟨rfl, hb⟩; refine ⟨_, rfl, ?_⟩; replace HO603 := Aside0.mk (Kd.R_below z18_41_ hb); replace HO608 := Aside0.mk (Kd.R_below z18_42_ hb); replace BK605 := bb_ BK605 z18_29_ hb; replace BK610 := bb_ BK610 z18_36_ hb; replace HB := Aside0.mk (below_step z18_20_ hb); have hcz53_0 : w52.cell? ⟨gb605, 0, none⟩ = some (.slice Ao15 t601.length co15) := (blk_cell BK605.out 0).trans rfl; have hfz53_0 := blk_frozen BK605.out 0))
  go_loopg [203] k (fun kq v203 w' => ∃ (x203_1 : Int), v203 = .int .i64 x203_1 ∧ Aside0 (laws_FnTicketsHidden.l0 kq l1 t598 t601 (t601.length : Int) x203_1 = some r) ∧ Aside0 (kq ≤ k) ∧ Aside0 (Kd.R k37 37 w' w.heap.size (fun k_ => some k_ ≠ ((.slice Ao19 t606.length co19) : Value).ownBlock) (.slice Ao15 t601.length co15) t601) ∧ Aside0 (Kd.R k37 37 w' w.heap.size (fun k_ => some k_ ≠ ((.slice Ao19 t606.length co19) : Value).ownBlock) (.slice Ao15 t601.length co15) t601) ∧ Aside0 (Kd.R k37 37 w' w.heap.size (fun k_ => some k_ ≠ ((.slice Ao15 t601.length co15) : Value).ownBlock ∧ some k_ ≠ ((.slice Ao15 t601.length co15) : Value).ownBlock) (.slice Ao19 t606.length co19) t606) ∧ Aside0 (w'.heap[gb605]? = some (.cells #[(.slice Ao15 t601.length co15)] 28 (0, 0))) ∧ Aside0 (w'.heap[gb610]? = some (.cells #[(.slice Ao19 t606.length co19)] 28 (0, 0))) ∧ Aside0 (Below w.heap.size w w'))
  case atStart => exact ⟨(0), zV_, H', ⟨Nat.le_refl _⟩, ⟨by refine rr_ ?_; exact Kd.R_mono HO603.out (fun _ hk => hk.2)⟩, ⟨by refine rr_ ?_; exact Kd.R_mono HO603.out (fun _ hk => hk.2)⟩, ⟨by refine rr_ ?_; exact Kd.R_mono HO608.out (fun _ hk => ⟨hk.2, hk.2⟩)⟩, ⟨b_ BK605.out⟩, ⟨b_ BK610.out⟩, ⟨by repeat (first | (with_reducible first | exact HB.out | apply below_alloc | apply pw_below_drewN | apply below_drew1 | refine below_set ?_ GE605.out | refine below_set ?_ GE610.out) | exact HB.out)⟩⟩
  case round =>
   clear H'
   obtain ⟨x203_1, rfl, HA, HK1, HO_201, HO_606000, HO_611000, BK605, BK610, HB⟩ := hrel
   cases gk with
   | zero => exact absurd HA.out (by simp [laws_FnTicketsHidden.l0])
   | succ k1 =>
    have H := HA.out
    clear HA
    simp only [laws_FnTicketsHidden.l0] at H
    by_cases c54 : x203_1 < (t601.length : Int)
    · rw [if_pos c54] at H
      have c54b0 := decide_eq_true c54
      clear c54
      replace H := gd_ H; obtain ⟨c55, H⟩ := H
      have c55b0 : decide (0 ≤ x203_1) = true := decide_eq_true c55
      clear c55
      replace H := gd_ H; obtain ⟨c56, H⟩ := H
      have c56b0 : decide (x203_1 < (t601.length : Int)) = true := decide_eq_true c56
      clear c56
      replace H := bd_ H; obtain ⟨⟨t632, t633⟩, A57, H⟩ := H
      dsimp only at H
      by_cases c58 : t633 = true
      rotate_left
      · replace H := bf_ c58 H; obtain ⟨rfl, H⟩ := H
        as_aux_lemma =>
         exact dead2_ H hr_
      subst c58
      rw [if_pos rfl] at H
      by_cases c59 : t632 = true
      rotate_left
      · replace H := bf_ c59 H; obtain ⟨rfl, H⟩ := H
        as_aux_lemma =>
         exact dead2_ H hr_
      subst c59
      rw [if_pos rfl] at H
      as_aux_lemma =>
       have H' := Aside0.mk H
       clear H
       have p630 : 0 ≤ (x203_1 : Int) := of_decide_eq_true zS_
       have q630 : x203_1 < (t601.length : Int) := of_decide_eq_true zS_
       obtain ⟨ad630, e630, hx630_0, hx630_1, hx630_2⟩ := at_T37 (Kd.R_reads' HO_201.out).2.2 x203_1 p630 q630
       cases e630
       replace p630 := eq_true p630
       replace q630 := eq_true q630
       go_wp2_with (first | ((with_reducible refine gate_dst (N := 28) rfl ?_); refine bxg_ 28 #[.int .i64 0, .int .i64 0, .int .i64 0] 37 ?_; intro gb631 hg w60 hbox hb; replace HO_201 := Aside0.mk (Kd.R_below (Kd.R_elderB (rr_ HO_201.out) gb631 (Nat.le_of_eq hg.symm)) hb); replace HO_606000 := Aside0.mk (Kd.R_below (Kd.R_elderB (rr_ HO_606000.out) gb631 (Nat.le_of_eq hg.symm)) hb); replace HO_611000 := Aside0.mk (Kd.R_below (Kd.R_elderB (rr_ HO_611000.out) gb631 (Nat.le_of_eq hg.symm)) hb); have BK631 := Aside0.mk (hbox); have GW631 : Aside0 (w.heap.size ≤ gb631) := bs_ hg z18_20_; have GE631 := GW631; replace HB := Aside0.mk (below_step z18_20_ hb); have NB605_631 := nl_ BK605 z18_29_ hg; have NB631_605 := ns_ NB605_631; replace BK605 := bb_ BK605 z18_29_ hb; have NB610_631 := nl_ BK610 z18_36_ hg; have NB631_610 := ns_ NB610_631; replace BK610 := bb_ BK610 z18_36_ hb; clear hb hbox hg; have hnb61 := NB631_605.out; have hnc61 := NB605_631.out; have hnb62 := NB631_610.out; have hnc62 := NB610_631.out; have hcz63_0 : w60.cell? ⟨gb631, 0, none⟩ = some (.int .i64 0) := (blk_cell BK631.out 0).trans rfl; have hcz63_1 : w60.cell? ⟨gb631, 1, none⟩ = some (.int .i64 0) := (blk_cell BK631.out 1).trans rfl; have hcz63_2 : w60.cell? ⟨gb631, 2, none⟩ = some (.int .i64 0) := (blk_cell BK631.out 2).trans rfl; have hfz63_0 := blk_frozen BK631.out 0; have hfz63_1 := blk_frozen BK631.out 1; have hfz63_2 := blk_frozen BK631.out 2) | ((with_reducible refine gc_ 11 rfl ?_); refine gL_ 210 Tryz.func11 #[.agg #[.int .i64 ((rd_T37 t601 x203_1).f0), .int .i64 ((rd_T37 t601 x203_1).f1), .int .i64 ((rd_T37 t601 x203_1).f2)], .string t598] ?_; (with_reducible refine (impl_DoesFit.calls k1 ((rd_T37 t601 x203_1).f0) ((rd_T37 t601 x203_1).f1) ((rd_T37 t601 x203_1).f2) t598 true true _ A57.out).mono ?_); rintro e w64 ⟨rfl, hb⟩; refine ⟨_, rfl, ?_⟩; replace HO_201 := Aside0.mk (Kd.R_below (by refine rr_ ?_; exact (Kd.R_mono (Kd.R_far (p := ⟨gb631, 2, none⟩) (Kd.R_far (p := ⟨gb631, 1, none⟩) (Kd.R_far (p := ⟨gb631, 0, none⟩) (Kd.R_mono HO_201.out (fun k_ hk => (⟨hk, hk.2⟩ : _ ∧ k_ ≠ gb631))) (fun _ hk => hk.2) (.int .i64 ((rd_T37 t601 x203_1).f0))) (fun _ hk => hk.2) (.int .i64 ((rd_T37 t601 x203_1).f1))) (fun _ hk => hk.2) (.int .i64 ((rd_T37 t601 x203_1).f2))) (fun _ h_ => h_.1))) hb); replace HO_606000 := Aside0.mk (Kd.R_below (by refine rr_ ?_; exact (Kd.R_mono (Kd.R_far (p := ⟨gb631, 2, none⟩) (Kd.R_far (p := ⟨gb631, 1, none⟩) (Kd.R_far (p := ⟨gb631, 0, none⟩) (Kd.R_mono HO_606000.out (fun k_ hk => (⟨hk, hk.2⟩ : _ ∧ k_ ≠ gb631))) (fun _ hk => hk.2) (.int .i64 ((rd_T37 t601 x203_1).f0))) (fun _ hk => hk.2) (.int .i64 ((rd_T37 t601 x203_1).f1))) (fun _ hk => hk.2) (.int .i64 ((rd_T37 t601 x203_1).f2))) (fun _ h_ => h_.1))) hb); replace HO_611000 := Aside0.mk (Kd.R_below (by refine rr_ ?_; exact (Kd.R_mono (Kd.R_far (p := ⟨gb631, 2, none⟩) (Kd.R_far (p := ⟨gb631, 1, none⟩) (Kd.R_far (p := ⟨gb631, 0, none⟩) (Kd.R_mono HO_611000.out (fun k_ hk => (⟨hk, hk.2⟩ : _ ∧ k_ ≠ gb631))) (fun _ hk => hk.2) (.int .i64 ((rd_T37 t601 x203_1).f0))) (fun _ hk => hk.2) (.int .i64 ((rd_T37 t601 x203_1).f1))) (fun _ hk => hk.2) (.int .i64 ((rd_T37 t601 x203_1).f2))) (fun _ h_ => h_.1))) hb); replace BK605 := bb_ BK605 (by refine b_ ?_; refine blk_far ?_ NB605_631.out _; refine b_ ?_; refine blk_far ?_ NB605_631.out _; refine b_ ?_; refine blk_far ?_ NB605_631.out _; exact b_ BK605.out) hb; replace BK610 := bb_ BK610 (by refine b_ ?_; refine blk_far ?_ NB610_631.out _; refine b_ ?_; refine blk_far ?_ NB610_631.out _; refine b_ ?_; refine blk_far ?_ NB610_631.out _; exact b_ BK610.out) hb; replace BK631 := Aside0.mk (blk_below (g := gb631) (o := .cells #[.int .i64 ((rd_T37 t601 x203_1).f0), .int .i64 ((rd_T37 t601 x203_1).f1), .int .i64 ((rd_T37 t601 x203_1).f2)] 37 (0, 0)) (by refine b_ ?_; refine blk_put (cs := #[.int .i64 ((rd_T37 t601 x203_1).f0), .int .i64 ((rd_T37 t601 x203_1).f1), .int .i64 0]) ?_ 2 _ rfl; refine b_ ?_; refine blk_put (cs := #[.int .i64 ((rd_T37 t601 x203_1).f0), .int .i64 0, .int .i64 0]) ?_ 1 _ rfl; refine b_ ?_; refine blk_put (cs := #[.int .i64 0, .int .i64 0, .int .i64 0]) ?_ 0 _ rfl; exact b_ BK631.out) hb); replace HB := Aside0.mk (below_step (by repeat (first | (with_reducible first | exact HB.out | apply below_alloc | apply pw_below_drewN | apply below_drew1 | refine below_set ?_ GE605.out | refine below_set ?_ GE610.out | refine below_set ?_ GE631.out) | exact HB.out)) hb)))
       go_roundg k1
       case measure => have := HK1.out; omega
       case rel => exact ⟨(wrap64 (x203_1 + 1)), zV_, H', ⟨by have := HK1.out; omega⟩, ⟨by refine rr_ ?_; exact Kd.R_mono HO_201.out (fun _ hk => hk.1)⟩, ⟨by refine rr_ ?_; exact Kd.R_mono HO_606000.out (fun _ hk => hk.1)⟩, ⟨by refine rr_ ?_; exact Kd.R_mono HO_611000.out (fun _ hk => ⟨hk.1.1, hk.1.2⟩)⟩, ⟨b_ BK605.out⟩, ⟨b_ BK610.out⟩, ⟨by repeat (first | (with_reducible first | exact HB.out | apply below_alloc | apply pw_below_drewN | apply below_drew1 | refine below_set ?_ GE605.out | refine below_set ?_ GE610.out | refine below_set ?_ GE631.out) | exact HB.out)⟩⟩
    rw [if_neg c54] at H
    have c54b0 := decide_eq_false c54
    clear c54
    as_aux_lemma =>
     have H' := Aside0.mk H
     clear H
     go_wp2
     try any_goals (exfalso; exact undef_bool_ (by with_reducible assumption))
     go_meet
     case rel => exact ⟨_, H', ⟨by have := HK1.out; first | omega | exact Nat.le_refl _⟩, ⟨by repeat (first | (with_reducible first | exact HB.out | apply below_alloc | apply pw_below_drewN | apply below_drew1 | refine below_set ?_ GE605.out | refine below_set ?_ GE610.out) | exact HB.out)⟩⟩
 case rest =>
  as_aux_lemma =>
  clear HC11
  obtain ⟨kq, HA, HJ10, HB⟩ := hcut
  cases kq with
  | zero => exact absurd HA.out (by simp [laws_FnTicketsHidden.j1])
  | succ kj10 =>
   have H := HA.out
   clear HA
   simp only [laws_FnTicketsHidden.j1] at H
   replace H := bd_ H; obtain ⟨t634, A65, H⟩ := H
   replace H := bd_ H; obtain ⟨⟨t638, t641⟩, A66, H⟩ := H
   dsimp only at H
   replace H := bd_ H; obtain ⟨⟨t643, t646⟩, A67, H⟩ := H
   dsimp only at H
   replace H := bd_ H; obtain ⟨⟨t648, t649⟩, A68, H⟩ := H
   dsimp only at H
   have HC69 := Aside0.mk H
   clear H
   go_upto_region 29 with (first | ((with_reducible refine gc_ 15 rfl ?_); refine gL_ 221 Tryz.func15 #[.slice A1 l1.length c1] ?_; (with_reducible refine (spec_DrawHarderPuzzle.calls kj10 _ _ l1 t634 _ ?side1 ?side2 A65.out).mono ?_); (case side1 => exact zc18_2_); (case side2 => exact HC1.out); rintro e w70 ⟨v635, rfl, ho0, hb⟩; refine ⟨_, rfl, ?_⟩; have HO636 := Aside0.mk (Kd.R_lower ho0 (below_size zB_)); replace HB := Aside0.mk (below_step zB_ hb)) | ((with_reducible refine gate_dst (N := 31) rfl ?_); refine bxg_ 31 #[.slice none 0 0] 28 ?_; intro gb637 hg w71 hbox hb; replace HO636 := Aside0.mk (Kd.R_below z18_43_ hb); have BK637 := Aside0.mk (hbox); have GW637 : Aside0 (w.heap.size ≤ gb637) := bs_ hg zB_; have GE637 := GW637; replace HB := Aside0.mk (below_step zB_ hb); clear hb hbox hg; obtain ⟨Ao72, co72, eo72⟩ := Kd.R_slice HO636.out; subst eo72; have hcz73_0 : w71.cell? ⟨gb637, 0, none⟩ = some (.slice none 0 0) := (blk_cell BK637.out 0).trans rfl; have hfz73_0 := blk_frozen BK637.out 0) | ((with_reducible refine gc_ 16 rfl ?_); refine gL_ 224 Tryz.func16 #[.agg #[.slice Ao72 t634.length co72]] ?_; (with_reducible refine (impl_HarderPuzzle.calls kj10 _ _ t634 t638 t641 _ ?side1 ?side2 A66.out).mono ?_); (case side1 => refine (Kd.R_reads' (e := 37) (base := w.heap.size) (ok := fun k_ => True) (n := t634.length) (c := co72) ?_).2.2; exact zq18_6_); (case side2 => exact (Kd.R_reads' HO636.out).2.1); rintro e w74 ⟨v639, rfl, ho0, hb⟩; refine ⟨_, rfl, ?_⟩; have HO640 := Aside0.mk (Kd.R_lower (Kd.R_new' ho0 (Kd.R_lt zq18_6_)) (below_size z18_39_)); replace HO636 := Aside0.mk (Kd.R_elder' zq18_6_ (Kd.R_base ho0) hb); replace BK637 := Aside0.mk (blk_below (g := gb637) (o := .cells #[.slice Ao72 t634.length co72] 28 (0, 0)) (by refine b_ ?_; refine blk_put (cs := #[.slice none 0 0]) ?_ 0 _ rfl; exact b_ BK637.out) hb); replace HB := Aside0.mk (below_step z18_39_ hb)) | ((with_reducible refine gate_dst (N := 32) rfl ?_); refine bxg_ 32 #[.slice none 0 0] 28 ?_; intro gb642 hg w75 hbox hb; replace HO636 := Aside0.mk (Kd.R_below z18_43_ hb); replace HO640 := Aside0.mk (Kd.R_below z18_44_ hb); have BK642 := Aside0.mk (hbox); have GW642 : Aside0 (w.heap.size ≤ gb642) := bs_ hg z18_39_; have GE642 := GW642; replace HB := Aside0.mk (below_step z18_39_ hb); have NB637_642 := nl_ BK637 z18_28_ hg; have NB642_637 := ns_ NB637_642; replace BK637 := bb_ BK637 z18_28_ hb; clear hb hbox hg; obtain ⟨Ao76, co76, eo76⟩ := Kd.R_slice HO640.out; subst eo76; have hnb77 := NB642_637.out; have hnc77 := NB637_642.out; have hcz78_0 : w75.cell? ⟨gb642, 0, none⟩ = some (.slice none 0 0) := (blk_cell BK642.out 0).trans rfl; have hfz78_0 := blk_frozen BK642.out 0; have hcz79_0 : w75.cell? ⟨gb637, 0, none⟩ = some (.slice Ao72 t634.length co72) := (blk_cell BK637.out 0).trans rfl; have hfz79_0 := blk_frozen BK637.out 0) | ((with_reducible refine gc_ 17 rfl ?_); refine gL_ 229 Tryz.func17 #[.agg #[.slice Ao72 t634.length co72]] ?_; (with_reducible refine (spec_HarderPuzzle.calls kj10 _ _ t634 t643 t646 _ ?side1 ?side2 A67.out).mono ?_); (case side1 => refine (Kd.R_reads' (e := 37) (base := w.heap.size) (ok := fun k_ => (True ∧ some k_ ≠ (.slice Ao76 t638.length co76 : Value).ownBlock)) (n := t634.length) (c := co72) ?_).2.2; exact zq18_5_); (case side2 => exact (Kd.R_reads' HO636.out).2.1); rintro e w80 ⟨v644, rfl, ho0, hb⟩; refine ⟨_, rfl, ?_⟩; have HO645 := Aside0.mk (Kd.R_lower (Kd.R_new' (Kd.R_new' ho0 (Kd.R_lt zq18_5_)) (Kd.R_lt zq18_21_)) (below_size z18_18_)); replace HO636 := Aside0.mk (Kd.R_elder' zq18_5_ (Kd.R_base ho0) hb); replace HO640 := Aside0.mk (Kd.R_elder' zq18_21_ (Kd.R_base ho0) hb); replace BK637 := bb_ BK637 (by refine b_ ?_; refine blk_far ?_ NB637_642.out _; exact b_ BK637.out) hb; replace BK642 := Aside0.mk (blk_below (g := gb642) (o := .cells #[.slice Ao76 t638.length co76] 28 (0, 0)) (by refine b_ ?_; refine blk_put (cs := #[.slice none 0 0]) ?_ 0 _ rfl; exact b_ BK642.out) hb); replace HB := Aside0.mk (below_step z18_18_ hb)) | ((with_reducible refine gate_dst (N := 34) rfl ?_); refine bxg_ 34 #[.slice none 0 0] 28 ?_; intro gb647 hg w81 hbox hb; replace HO636 := Aside0.mk (Kd.R_below z18_43_ hb); replace HO640 := Aside0.mk (Kd.R_below z18_44_ hb); replace HO645 := Aside0.mk (Kd.R_below z18_52_ hb); have BK647 := Aside0.mk (hbox); have GW647 : Aside0 (w.heap.size ≤ gb647) := bs_ hg z18_18_; have GE647 := GW647; replace HB := Aside0.mk (below_step z18_18_ hb); have NB637_647 := nl_ BK637 z18_28_ hg; have NB647_637 := ns_ NB637_647; replace BK637 := bb_ BK637 z18_28_ hb; have NB642_647 := nl_ BK642 z18_34_ hg; have NB647_642 := ns_ NB642_647; replace BK642 := bb_ BK642 z18_34_ hb; clear hb hbox hg; obtain ⟨Ao82, co82, eo82⟩ := Kd.R_slice HO645.out; subst eo82; have hnb83 := NB647_637.out; have hnc83 := NB637_647.out; have hnb84 := NB647_642.out; have hnc84 := NB642_647.out; have hcz85_0 : w81.cell? ⟨gb647, 0, none⟩ = some (.slice none 0 0) := (blk_cell BK647.out 0).trans rfl; have hfz85_0 := blk_frozen BK647.out 0; have hcz86_0 : w81.cell? ⟨gb637, 0, none⟩ = some (.slice Ao72 t634.length co72) := (blk_cell BK637.out 0).trans rfl; have hfz86_0 := blk_frozen BK637.out 0) | ((with_reducible refine gc_ 18 rfl ?_); refine gL_ 234 Tryz.func18 #[.agg #[.slice Ao72 t634.length co72]] ?_; (with_reducible refine (impl_IsSolved.calls kj10 _ _ t634 t648 t649 _ ?side1 ?side2 A68.out).mono ?_); (case side1 => refine (Kd.R_reads' (e := 37) (base := w.heap.size) (ok := fun k_ => ((True ∧ some k_ ≠ (.slice Ao76 t638.length co76 : Value).ownBlock) ∧ some k_ ≠ (.slice Ao82 t643.length co82 : Value).ownBlock)) (n := t634.length) (c := co72) ?_).2.2; exact zq18_20_); (case side2 => exact (Kd.R_reads' HO636.out).2.1); rintro e w87 ⟨rfl, hb⟩; refine ⟨_, rfl, ?_⟩; replace HO636 := Aside0.mk (Kd.R_below zq18_20_ hb); replace HO640 := Aside0.mk (Kd.R_below (by refine rr_ ?_; exact (Kd.R_mono (Kd.R_far (p := ⟨gb647, 0, none⟩) (Kd.R_types HO640.out BK647.out (by decide)) (fun _ hk => hk.2) (.slice Ao82 t643.length co82)) (fun _ h_ => h_.1))) hb); replace HO645 := Aside0.mk (Kd.R_below (by refine rr_ ?_; exact (Kd.R_mono (Kd.R_far (p := ⟨gb647, 0, none⟩) (Kd.R_types HO645.out BK647.out (by decide)) (fun _ hk => hk.2) (.slice Ao82 t643.length co82)) (fun _ h_ => h_.1))) hb); replace BK637 := bb_ BK637 (by refine b_ ?_; refine blk_far ?_ NB637_647.out _; exact b_ BK637.out) hb; replace BK642 := bb_ BK642 (by refine b_ ?_; refine blk_far ?_ NB642_647.out _; exact b_ BK642.out) hb; replace BK647 := Aside0.mk (blk_below (g := gb647) (o := .cells #[.slice Ao82 t643.length co82] 28 (0, 0)) (by refine b_ ?_; refine blk_put (cs := #[.slice none 0 0]) ?_ 0 _ rfl; exact b_ BK647.out) hb); replace HB := Aside0.mk (below_step z18_37_ hb)))
   (try simp only [Act.put, List.setIfInBounds_toArray, List.set_cons_zero, List.set_cons_succ])
   go_cut [253] from 220 to 253 (fun v253 wc => ∃ (kq : Nat) (x253_68 : Bool), v253 = .bool x253_68 ∧ Aside0 (laws_FnTicketsHidden.j2 kq l1 t641 x253_68 t634 t638 = some r) ∧ Aside0 (kq ≤ kj10) ∧ Aside0 (Kd.R k37 37 wc w.heap.size (fun k_ => some k_ ≠ ((.slice Ao76 t638.length co76) : Value).ownBlock) (.slice Ao72 t634.length co72) t634) ∧ Aside0 (Kd.R k37 37 wc w.heap.size (fun k_ => some k_ ≠ ((.slice Ao72 t634.length co72) : Value).ownBlock) (.slice Ao76 t638.length co76) t638) ∧ Aside0 (wc.heap[gb637]? = some (.cells #[(.slice Ao72 t634.length co72)] 28 (0, 0))) ∧ Aside0 (wc.heap[gb642]? = some (.cells #[(.slice Ao76 t638.length co76)] 28 (0, 0))) ∧ Aside0 (Below w.heap.size w wc))
   case first =>
    as_aux_lemma =>
    have H := HC69.out
    clear HC69
    by_cases c88 : (t641 != t646) = true
    · exact laws_FnTicketsHidden.j2_dead ((if_pos c88).symm.trans H) hr_
    rw [if_neg c88] at H
    have c88b0 : (t641 != t646) = false := by simpa using c88
    (try (have c88b1 : decide (t641 = t646) = true := by simpa using c88))
    (try (have c88b2 : (t641 == t646) = true := by simpa using c88))
    clear c88
    (first | rw [c88b0] | (simp only [i64_w, i32_w]; rw [c88b0]) | skip)
    replace H := bd_ H; obtain ⟨t651, A89, H⟩ := H
    by_cases c90 : t651 = true
    rotate_left
    · replace H := bf_ c90 H; obtain ⟨rfl, H⟩ := H
      as_aux_lemma =>
       first | exact laws_FnTicketsHidden.j2_dead H hr_ | exact laws_FnTicketsHidden.j4_dead H hr_
    subst c90
    rw [if_pos rfl] at H
    by_cases c91 : t649 = true
    · subst c91
      rw [if_pos rfl] at H
      as_aux_lemma =>
       have H' := Aside0.mk H
       clear H
       have hnb92 := NB642_637.out
       have hnc92 := NB637_642.out
       have hnb93 := NB642_647.out
       have hnc93 := NB647_642.out
       have hcz94_0 : w87.cell? ⟨gb642, 0, none⟩ = some (.slice Ao76 t638.length co76) := (blk_cell BK642.out 0).trans rfl
       have hfz94_0 := blk_frozen BK642.out 0
       have hnb95 := NB647_637.out
       have hnc95 := NB637_647.out
       have hcz96_0 : w87.cell? ⟨gb647, 0, none⟩ = some (.slice Ao82 t643.length co82) := (blk_cell BK647.out 0).trans rfl
       have hfz96_0 := blk_frozen BK647.out 0
       go_wp2_with (first | (go_at_call 9; (with_reducible refine (laws_iPuzzle.calls kj10 _ _ t638 _ _ t643 true _ ?side1 ?side2 ?side3 ?side4 A89.out).mono ?_); (case side1 => exact zc18_3_); (case side2 => exact (Kd.R_reads' HO640.out).2.1); (case side3 => exact zc18_4_); (case side4 => exact (Kd.R_reads' HO645.out).2.1); rintro e w97 ⟨rfl, hb⟩; replace HO636 := Aside0.mk (Kd.R_below z18_43_ hb); replace HO640 := Aside0.mk (Kd.R_below z18_44_ hb); replace HO645 := Aside0.mk (Kd.R_below z18_52_ hb); replace BK637 := bb_ BK637 z18_28_ hb; replace BK642 := bb_ BK642 z18_34_ hb; replace BK647 := bb_ BK647 z18_53_ hb; replace HB := Aside0.mk (below_step z18_37_ hb)))
       try any_goals (exfalso; exact undef_bool_ (by with_reducible assumption))
       go_meet
       case rel => exact ⟨_, ((t641 != t648)), zV_, H', ⟨by have := HJ10.out; first | omega | exact Nat.le_refl _⟩, ⟨by refine rr_ ?_; exact Kd.R_mono HO636.out (fun _ hk => hk.1.2)⟩, ⟨by refine rr_ ?_; exact Kd.R_mono HO640.out (fun _ hk => hk.1.2)⟩, ⟨b_ BK637.out⟩, ⟨b_ BK642.out⟩, ⟨by repeat (first | (with_reducible first | exact HB.out | apply below_alloc | apply pw_below_drewN | apply below_drew1 | refine below_set ?_ GE637.out | refine below_set ?_ GE642.out | refine below_set ?_ GE647.out) | exact HB.out)⟩⟩
    replace H := bf_ c91 H; obtain ⟨rfl, H⟩ := H
    as_aux_lemma =>
     have H' := Aside0.mk H
     clear H
     have hnb98 := NB642_637.out
     have hnc98 := NB637_642.out
     have hnb99 := NB642_647.out
     have hnc99 := NB647_642.out
     have hcz100_0 : w87.cell? ⟨gb642, 0, none⟩ = some (.slice Ao76 t638.length co76) := (blk_cell BK642.out 0).trans rfl
     have hfz100_0 := blk_frozen BK642.out 0
     have hnb101 := NB647_637.out
     have hnc101 := NB637_647.out
     have hcz102_0 : w87.cell? ⟨gb647, 0, none⟩ = some (.slice Ao82 t643.length co82) := (blk_cell BK647.out 0).trans rfl
     have hfz102_0 := blk_frozen BK647.out 0
     go_wp2_with (first | (go_at_call 9; (with_reducible refine (laws_iPuzzle.calls kj10 _ _ t638 _ _ t643 true _ ?side1 ?side2 ?side3 ?side4 A89.out).mono ?_); (case side1 => exact zc18_3_); (case side2 => exact (Kd.R_reads' HO640.out).2.1); (case side3 => exact zc18_4_); (case side4 => exact (Kd.R_reads' HO645.out).2.1); rintro e w103 ⟨rfl, hb⟩; replace HO636 := Aside0.mk (Kd.R_below z18_43_ hb); replace HO640 := Aside0.mk (Kd.R_below z18_44_ hb); replace HO645 := Aside0.mk (Kd.R_below z18_52_ hb); replace BK637 := bb_ BK637 z18_28_ hb; replace BK642 := bb_ BK642 z18_34_ hb; replace BK647 := bb_ BK647 z18_53_ hb; replace HB := Aside0.mk (below_step z18_37_ hb)))
     try any_goals (exfalso; exact undef_bool_ (by with_reducible assumption))
     go_meet
     case rel => exact ⟨_, ((t641 != false)), zV_, H', ⟨by have := HJ10.out; first | omega | exact Nat.le_refl _⟩, ⟨by refine rr_ ?_; exact Kd.R_mono HO636.out (fun _ hk => hk.1.2)⟩, ⟨by refine rr_ ?_; exact Kd.R_mono HO640.out (fun _ hk => hk.1.2)⟩, ⟨b_ BK637.out⟩, ⟨b_ BK642.out⟩, ⟨by repeat (first | (with_reducible first | exact HB.out | apply below_alloc | apply pw_below_drewN | apply below_drew1 | refine below_set ?_ GE637.out | refine below_set ?_ GE642.out | refine below_set ?_ GE647.out) | exact HB.out)⟩⟩
   case rest =>
    as_aux_lemma =>
    clear HC69
    obtain ⟨kq, x253_68, rfl, HA, HJ68, HO_638000, HO_643000, BK637, BK642, HB⟩ := hcut
    cases kq with
    | zero => exact absurd HA.out (by simp [laws_FnTicketsHidden.j2])
    | succ kj68 =>
     have H := HA.out
     clear HA
     simp only [laws_FnTicketsHidden.j2] at H
     by_cases c110 : x253_68 = true
     · subst c110
       rw [if_pos rfl] at H
       as_aux_lemma =>
        exact dead2_ H hr_
     replace H := bf_ c110 H; obtain ⟨rfl, H⟩ := H
     have HC111 := Aside0.mk H
     clear H
     go_upto_if 254 with (fail)
     go_cut [] from 254 to 299 (fun wc => ∃ (kq : Nat), Aside0 (laws_FnTicketsHidden.j3 kq l1 = some r) ∧ Aside0 (kq ≤ kj68) ∧ Aside0 (Below w.heap.size w wc))
     case first =>
      as_aux_lemma =>
      have H := HC111.out
      clear HC111
      by_cases c112 : t641 = true
      rotate_left
      · replace H := bf_ c112 H; obtain ⟨rfl, H⟩ := H
        as_aux_lemma =>
         have H' := Aside0.mk H
         clear H
         go_wp2
         try any_goals (exfalso; exact undef_bool_ (by with_reducible assumption))
         go_meet
         case rel => exact ⟨_, H', ⟨by have := HJ10.out; have := HJ68.out; first | omega | exact Nat.le_refl _⟩, ⟨by repeat (first | (with_reducible first | exact HB.out | apply below_alloc | apply pw_below_drewN | apply below_drew1 | refine below_set ?_ GE637.out | refine below_set ?_ GE642.out) | exact HB.out)⟩⟩
      subst c112
      rw [if_pos rfl] at H
      replace H := bd_ H; obtain ⟨⟨t652, t655⟩, A113, H⟩ := H
      dsimp only at H
      replace H := bd_ H; obtain ⟨⟨t656, t659⟩, A114, H⟩ := H
      dsimp only at H
      replace H := bd_ H; obtain ⟨⟨t660, t663⟩, A115, H⟩ := H
      dsimp only at H
      by_cases c116 : t655 = true
      rotate_left
      · replace H := bf_ c116 H; obtain ⟨rfl, H⟩ := H
        as_aux_lemma =>
         exact dead2_ H hr_
      subst c116
      rw [if_pos rfl] at H
      by_cases c117 : t659 = true
      rotate_left
      · replace H := bf_ c117 H; obtain ⟨rfl, H⟩ := H
        as_aux_lemma =>
         exact dead2_ H hr_
      subst c117
      rw [if_pos rfl] at H
      replace H := bd_ H; obtain ⟨t665, A118, H⟩ := H
      by_cases c119 : t665 = true
      rotate_left
      · replace H := bf_ c119 H; obtain ⟨rfl, H⟩ := H
        as_aux_lemma =>
         exact dead2_ H hr_
      subst c119
      rw [if_pos rfl] at H
      by_cases c120 : t663 = true
      rotate_left
      · replace H := bf_ c120 H; obtain ⟨rfl, H⟩ := H
        as_aux_lemma =>
         exact dead2_ H hr_
      subst c120
      rw [if_pos rfl] at H
      replace H := dg_ H hr_; obtain ⟨c121, H⟩ := H
      have c121b0 : ((t660.length : Int) == 0) = true := beq_iff_eq.mpr c121
      have c121b1 : ((t660.length : Int) != 0) = false := bne_eq_false_iff_eq.mpr c121
      clear c121
      (first | rw [c121b0] | (simp only [i64_w, i32_w]; rw [c121b0]) | skip)
      by_cases c122 : (t638.length : Int) > (t634.length : Int)
      · exact dead_ (if_pos c122) H hr_
      rw [if_neg c122] at H
      have c122b0 : decide ((t634.length : Int) < (t638.length : Int)) = false := decide_eq_false c122
      have c122b1 : decide (t634.length < t638.length) = false := decide_eq_false (fun h => c122 (Int.ofNat_lt.mpr h))
      clear c122
      as_aux_lemma =>
       have H' := Aside0.mk H
       clear H
       have hnb123 := NB637_642.out
       have hnc123 := NB642_637.out
       have hcz124_0 : wc.cell? ⟨gb637, 0, none⟩ = some (.slice Ao72 t634.length co72) := (blk_cell BK637.out 0).trans rfl
       have hfz124_0 := blk_frozen BK637.out 0
       go_wp2_with (first | ((with_reducible refine gc_ 19 rfl ?_); refine gL_ 257 Tryz.func19 #[.agg #[.slice Ao72 t634.length co72]] ?_; (with_reducible refine (impl_Solutions.calls kj68 _ _ t634 t652 true _ ?side1 ?side2 A113.out).mono ?_); (case side1 => repeat (first | exact (Kd.R_reads' HO_638000.out).2.2 | (with_reducible refine Kd.C_alloc ?_ _) | (with_reducible refine Kd.C_drewN ?_ _) | (with_reducible refine Kd.C_drew ?_))); (case side2 => exact (Kd.R_reads' HO_638000.out).2.1); rintro e w125 ⟨v653, rfl, ho0, hb⟩; refine ⟨_, rfl, ?_⟩; replace HO_638000 := Aside0.mk (Kd.R_below z18_55_ hb); replace HO_643000 := Aside0.mk (Kd.R_below z18_56_ hb); have HO654 := Aside0.mk (Kd.R_lower ho0 (below_size z18_18_)); replace BK637 := bb_ BK637 z18_28_ hb; replace BK642 := bb_ BK642 z18_34_ hb; replace HB := Aside0.mk (below_step z18_18_ hb); have hcz126_0 : w125.cell? ⟨gb642, 0, none⟩ = some (.slice Ao76 t638.length co76) := (blk_cell BK642.out 0).trans rfl; have hfz126_0 := blk_frozen BK642.out 0) | ((with_reducible refine gc_ 19 rfl ?_); refine gL_ 262 Tryz.func19 #[.agg #[.slice Ao76 t638.length co76]] ?_; (with_reducible refine (impl_Solutions.calls kj68 _ _ t638 t656 true _ ?side1 ?side2 A114.out).mono ?_); (case side1 => exact zc18_0_); (case side2 => exact (Kd.R_reads' HO_643000.out).2.1); rintro e w127 ⟨v657, rfl, ho0, hb⟩; refine ⟨_, rfl, ?_⟩; replace HO_638000 := Aside0.mk (Kd.R_below z18_55_ hb); replace HO_643000 := Aside0.mk (Kd.R_below z18_56_ hb); have HO658 := Aside0.mk (Kd.R_lower (Kd.R_new' ho0 (Kd.R_lt z18_57_)) (below_size z18_18_)); replace HO654 := Aside0.mk (Kd.R_elder' z18_57_ (Kd.R_base ho0) hb); replace BK637 := bb_ BK637 z18_28_ hb; replace BK642 := bb_ BK642 z18_34_ hb; replace HB := Aside0.mk (below_step z18_18_ hb); have hcz128_0 : w127.cell? ⟨gb642, 0, none⟩ = some (.slice Ao76 t638.length co76) := (blk_cell BK642.out 0).trans rfl; have hfz128_0 := blk_frozen BK642.out 0) | ((with_reducible refine gc_ 20 rfl ?_); refine gL_ 267 Tryz.func20 #[.agg #[.slice Ao76 t638.length co76]] ?_; (with_reducible refine (impl_NeedlessClues.calls kj68 _ _ t638 t660 true _ ?side1 ?side2 A115.out).mono ?_); (case side1 => exact zc18_0_); (case side2 => exact (Kd.R_reads' HO_643000.out).2.1); rintro e w129 ⟨v661, rfl, ho0, hb⟩; refine ⟨_, rfl, ?_⟩; replace HO_638000 := Aside0.mk (Kd.R_below z18_55_ hb); replace HO_643000 := Aside0.mk (Kd.R_below z18_56_ hb); replace HO654 := Aside0.mk (Kd.R_below z18_57_ hb); replace HO658 := Aside0.mk (Kd.R_below (rr_ HO658.out) hb); have HO662 := Aside0.mk (Kd.R_lower ho0 (below_size z18_18_)); replace BK637 := bb_ BK637 z18_28_ hb; replace BK642 := bb_ BK642 z18_34_ hb; replace HB := Aside0.mk (below_step z18_18_ hb); obtain ⟨Ao130, co130, eo130⟩ := Kd.R_slice HO654.out; subst eo130; obtain ⟨Ao131, co131, eo131⟩ := Kd.R_slice HO658.out; subst eo131) | (go_at_call 21; (with_reducible refine (laws_iTexts.calls kj68 _ _ t652 _ _ t656 true _ ?side1 ?side2 ?side3 ?side4 A118.out).mono ?_); (case side1 => repeat (first | exact (Kd.R_reads' HO654.out).2.2 | (with_reducible refine Kd.C_alloc ?_ _) | (with_reducible refine Kd.C_drewN ?_ _) | (with_reducible refine Kd.C_drew ?_))); (case side2 => exact (Kd.R_reads' HO654.out).2.1); (case side3 => repeat (first | exact (Kd.R_reads' HO658.out).2.2 | (with_reducible refine Kd.C_alloc ?_ _) | (with_reducible refine Kd.C_drewN ?_ _) | (with_reducible refine Kd.C_drew ?_))); (case side4 => exact (Kd.R_reads' HO658.out).2.1); rintro e w' ⟨rfl, ⟨nd, rfl⟩⟩; obtain ⟨Ao132, co132, eo132⟩ := Kd.R_slice HO662.out; subst eo132; have hcz133_0 : w129.cell? ⟨gb642, 0, none⟩ = some (.slice Ao76 t638.length co76) := (blk_cell BK642.out 0).trans rfl; have hfz133_0 := blk_frozen BK642.out 0; have hcz134_0 : w129.cell? ⟨gb637, 0, none⟩ = some (.slice Ao72 t634.length co72) := (blk_cell BK637.out 0).trans rfl; have hfz134_0 := blk_frozen BK637.out 0))
       try any_goals (exfalso; exact undef_bool_ (by with_reducible assumption))
       go_meet
       case rel => exact ⟨_, H', ⟨by have := HJ10.out; have := HJ68.out; first | omega | exact Nat.le_refl _⟩, ⟨by repeat (first | (with_reducible first | exact HB.out | apply below_alloc | apply pw_below_drewN | apply below_drew1 | refine below_set ?_ GE637.out | refine below_set ?_ GE642.out) | exact HB.out)⟩⟩
     case rest =>
      as_aux_lemma =>
      clear HC111
      obtain ⟨kq, HA, HJ110, HB⟩ := hcut
      cases kq with
      | zero => exact absurd HA.out (by simp [laws_FnTicketsHidden.j3])
      | succ kj110 =>
       have H := HA.out
       clear HA
       simp only [laws_FnTicketsHidden.j3] at H
       replace H := bd_ H; obtain ⟨⟨t666, t669, t670, t671⟩, A135, H⟩ := H
       dsimp only at H
       replace H := bd_ H; obtain ⟨⟨t674, t677⟩, A136, H⟩ := H
       dsimp only at H
       replace H := bd_ H; obtain ⟨⟨t679, t682⟩, A137, H⟩ := H
       dsimp only at H
       replace H := bd_ H; obtain ⟨⟨t684, t687⟩, A138, H⟩ := H
       dsimp only at H
       replace H := bd_ H; obtain ⟨⟨t689, t692⟩, A139, H⟩ := H
       dsimp only at H
       as_aux_lemma =>
       replace H := bd_ H; obtain ⟨⟨t694, t697⟩, A140, H⟩ := H
       dsimp only at H
       replace H := bd_ H; obtain ⟨⟨t699, t700, t701, t702⟩, A141, H⟩ := H
       dsimp only at H
       replace H := bd_ H; obtain ⟨⟨t704, t705⟩, A142, H⟩ := H
       dsimp only at H
       replace H := bd_ H; obtain ⟨⟨t706, t707⟩, A143, H⟩ := H
       dsimp only at H
       replace H := bd_ H; obtain ⟨⟨t708, t709, t710⟩, A144, H⟩ := H
       dsimp only at H
       have HC145 := Aside0.mk H
       clear H
       go_upto_region 47 with (first | ((with_reducible refine gc_ 22 rfl ?_); refine gL_ 302 Tryz.func22 #[.slice A1 l1.length c1] ?_; (with_reducible refine (spec_DrawAddClue.calls kj110 _ _ l1 t666 t669 t670 t671 _ ?side1 ?side2 A135.out).mono ?_); (case side1 => exact zc18_2_); (case side2 => exact HC1.out); rintro e w146 ⟨v667, rfl, ho0, hb⟩; refine ⟨_, rfl, ?_⟩; have HO668 := Aside0.mk (Kd.R_lower ho0 (below_size zB_)); replace HB := Aside0.mk (below_step zB_ hb)) | ((with_reducible refine gate_dst (N := 44) rfl ?_); refine bxg_ 44 #[.slice none 0 0] 28 ?_; intro gb672 hg w147 hbox hb; replace HO668 := Aside0.mk (Kd.R_below z18_9_ hb); have BK672 := Aside0.mk (hbox); have GW672 : Aside0 (w.heap.size ≤ gb672) := bs_ hg zB_; have GE672 := GW672; replace HB := Aside0.mk (below_step zB_ hb); clear hb hbox hg) | ((with_reducible refine gate_dst (N := 45) rfl ?_); refine bxg_ 45 #[.int .i64 0, .int .i64 0, .int .i64 0] 37 ?_; intro gb673 hg w148 hbox hb; replace HO668 := Aside0.mk (Kd.R_below (Kd.R_elderB z18_9_ gb673 (Nat.le_of_eq hg.symm)) hb); have BK673 := Aside0.mk (hbox); have GW673 : Aside0 (w.heap.size ≤ gb673) := bs_ hg z18_49_; have GE673 := GW673; replace HB := Aside0.mk (below_step z18_49_ hb); have NB672_673 := nl_ BK672 z18_2_ hg; have NB673_672 := ns_ NB672_673; replace BK672 := bb_ BK672 z18_2_ hb; clear hb hbox hg; obtain ⟨Ao149, co149, eo149⟩ := Kd.R_slice HO668.out; subst eo149; have hnb150 := NB672_673.out; have hnc150 := NB673_672.out; have hcz151_0 : w148.cell? ⟨gb672, 0, none⟩ = some (.slice none 0 0) := (blk_cell BK672.out 0).trans rfl; have hfz151_0 := blk_frozen BK672.out 0; have hcz152_0 : w148.cell? ⟨gb673, 0, none⟩ = some (.int .i64 0) := (blk_cell BK673.out 0).trans rfl; have hcz152_1 : w148.cell? ⟨gb673, 1, none⟩ = some (.int .i64 0) := (blk_cell BK673.out 1).trans rfl; have hcz152_2 : w148.cell? ⟨gb673, 2, none⟩ = some (.int .i64 0) := (blk_cell BK673.out 2).trans rfl; have hfz152_0 := blk_frozen BK673.out 0; have hfz152_1 := blk_frozen BK673.out 1; have hfz152_2 := blk_frozen BK673.out 2) | ((with_reducible refine gc_ 23 rfl ?_); refine gL_ 308 Tryz.func23 #[.agg #[.slice Ao149 t666.length co149], .agg #[.int .i64 t669, .int .i64 t670, .int .i64 t671]] ?_; (with_reducible refine (impl_AddClue.calls kj110 _ _ t666 t669 t670 t671 t674 t677 _ ?side1 ?side2 A136.out).mono ?_); (case side1 => refine (Kd.R_reads' (e := 37) (base := w.heap.size) (ok := fun k_ => (True ∧ k_ ≠ gb673)) (n := t666.length) (c := co149) ?_).2.2; exact zq18_0_); (case side2 => exact (Kd.R_reads' HO668.out).2.1); rintro e w153 ⟨v675, rfl, ho0, hb⟩; refine ⟨_, rfl, ?_⟩; have HO676 := Aside0.mk (Kd.R_lower (Kd.R_newB (Kd.R_new' ho0 (Kd.R_lt zq18_0_)) (g := gb673) (o := .cells #[.int .i64 t669, .int .i64 t670, .int .i64 t671] 37 (0, 0)) z18_24_) (below_size z18_35_)); replace HO668 := Aside0.mk (Kd.R_elder' zq18_0_ (Kd.R_base ho0) hb); replace BK672 := Aside0.mk (blk_below (g := gb672) (o := .cells #[.slice Ao149 t666.length co149] 28 (0, 0)) (by refine b_ ?_; refine blk_far ?_ NB672_673.out _; refine b_ ?_; refine blk_far ?_ NB672_673.out _; refine b_ ?_; refine blk_far ?_ NB672_673.out _; refine b_ ?_; refine blk_put (cs := #[.slice none 0 0]) ?_ 0 _ rfl; exact b_ BK672.out) hb); replace BK673 := Aside0.mk (blk_below (g := gb673) (o := .cells #[.int .i64 t669, .int .i64 t670, .int .i64 t671] 37 (0, 0)) z18_24_ hb); replace HB := Aside0.mk (below_step z18_35_ hb)) | ((with_reducible refine gate_dst (N := 46) rfl ?_); refine bxg_ 46 #[.slice none 0 0] 28 ?_; intro gb678 hg w154 hbox hb; replace HO668 := Aside0.mk (Kd.R_below z18_9_ hb); replace HO676 := Aside0.mk (Kd.R_below z18_10_ hb); have BK678 := Aside0.mk (hbox); have GW678 : Aside0 (w.heap.size ≤ gb678) := bs_ hg z18_35_; have GE678 := GW678; replace HB := Aside0.mk (below_step z18_35_ hb); have NB672_678 := nl_ BK672 z18_2_ hg; have NB678_672 := ns_ NB672_678; replace BK672 := bb_ BK672 z18_2_ hb; have NB673_678 := nl_ BK673 z18_3_ hg; have NB678_673 := ns_ NB673_678; replace BK673 := bb_ BK673 z18_3_ hb; clear hb hbox hg; obtain ⟨Ao155, co155, eo155⟩ := Kd.R_slice HO676.out; subst eo155; have hnb156 := NB678_672.out; have hnc156 := NB672_678.out; have hnb157 := NB678_673.out; have hnc157 := NB673_678.out; have hcz158_0 : w154.cell? ⟨gb678, 0, none⟩ = some (.slice none 0 0) := (blk_cell BK678.out 0).trans rfl; have hfz158_0 := blk_frozen BK678.out 0; have hcz159_0 : w154.cell? ⟨gb672, 0, none⟩ = some (.slice Ao149 t666.length co149) := (blk_cell BK672.out 0).trans rfl; have hfz159_0 := blk_frozen BK672.out 0; have hcz160_0 : w154.cell? ⟨gb673, 0, none⟩ = some (.int .i64 t669) := (blk_cell BK673.out 0).trans rfl; have hcz160_1 : w154.cell? ⟨gb673, 1, none⟩ = some (.int .i64 t670) := (blk_cell BK673.out 1).trans rfl; have hcz160_2 : w154.cell? ⟨gb673, 2, none⟩ = some (.int .i64 t671) := (blk_cell BK673.out 2).trans rfl; have hfz160_0 := blk_frozen BK673.out 0; have hfz160_1 := blk_frozen BK673.out 1; have hfz160_2 := blk_frozen BK673.out 2) | ((with_reducible refine gc_ 24 rfl ?_); refine gL_ 314 Tryz.func24 #[.agg #[.slice Ao149 t666.length co149], .agg #[.int .i64 t669, .int .i64 t670, .int .i64 t671]] ?_; (with_reducible refine (spec_AddClue.calls kj110 _ _ t666 t669 t670 t671 t679 t682 _ ?side1 ?side2 A137.out).mono ?_); (case side1 => refine (Kd.R_reads' (e := 37) (base := w.heap.size) (ok := fun k_ => ((True ∧ k_ ≠ gb673) ∧ some k_ ≠ (.slice Ao155 t674.length co155 : Value).ownBlock)) (n := t666.length) (c := co149) ?_).2.2; exact zq18_4_); (case side2 => exact (Kd.R_reads' HO668.out).2.1); rintro e w161 ⟨v680, rfl, ho0, hb⟩; refine ⟨_, rfl, ?_⟩; have HO681 := Aside0.mk (Kd.R_lower (Kd.R_newB (Kd.R_new' (Kd.R_new' ho0 (Kd.R_lt zq18_4_)) (Kd.R_lt zq18_19_)) (g := gb673) (o := .cells #[.int .i64 t669, .int .i64 t670, .int .i64 t671] 37 (0, 0)) z18_45_) (below_size z18_30_)); replace HO668 := Aside0.mk (Kd.R_elder' zq18_4_ (Kd.R_base ho0) hb); replace HO676 := Aside0.mk (Kd.R_elder' zq18_19_ (Kd.R_base ho0) hb); replace BK672 := bb_ BK672 (by refine b_ ?_; refine blk_far ?_ NB672_678.out _; exact b_ BK672.out) hb; replace BK673 := bb_ BK673 z18_45_ hb; replace BK678 := Aside0.mk (blk_below (g := gb678) (o := .cells #[.slice Ao155 t674.length co155] 28 (0, 0)) (by refine b_ ?_; refine blk_put (cs := #[.slice none 0 0]) ?_ 0 _ rfl; exact b_ BK678.out) hb); replace HB := Aside0.mk (below_step z18_30_ hb)) | ((with_reducible refine gate_dst (N := 48) rfl ?_); refine bxg_ 48 #[.slice none 0 0] 28 ?_; intro gb683 hg w162 hbox hb; replace HO668 := Aside0.mk (Kd.R_below z18_9_ hb); replace HO676 := Aside0.mk (Kd.R_below z18_10_ hb); replace HO681 := Aside0.mk (Kd.R_below z18_12_ hb); have BK683 := Aside0.mk (hbox); have GW683 : Aside0 (w.heap.size ≤ gb683) := bs_ hg z18_30_; have GE683 := GW683; replace HB := Aside0.mk (below_step z18_30_ hb); have NB672_683 := nl_ BK672 z18_2_ hg; have NB683_672 := ns_ NB672_683; replace BK672 := bb_ BK672 z18_2_ hb; have NB673_683 := nl_ BK673 z18_3_ hg; have NB683_673 := ns_ NB673_683; replace BK673 := bb_ BK673 z18_3_ hb; have NB678_683 := nl_ BK678 z18_6_ hg; have NB683_678 := ns_ NB678_683; replace BK678 := bb_ BK678 z18_6_ hb; clear hb hbox hg; obtain ⟨Ao163, co163, eo163⟩ := Kd.R_slice HO681.out; subst eo163; have hnb164 := NB683_672.out; have hnc164 := NB672_683.out; have hnb165 := NB683_673.out; have hnc165 := NB673_683.out; have hnb166 := NB683_678.out; have hnc166 := NB678_683.out; have hcz167_0 : w162.cell? ⟨gb683, 0, none⟩ = some (.slice none 0 0) := (blk_cell BK683.out 0).trans rfl; have hfz167_0 := blk_frozen BK683.out 0) | ((with_reducible refine gc_ 25 rfl ?_); refine gL_ 319 Tryz.func25 #[.slice A1 l1.length c1] ?_; (with_reducible refine (spec_DrawDropClue.calls kj110 _ _ l1 t684 t687 _ ?side1 ?side2 A138.out).mono ?_); (case side1 => exact Kd.C_below HR1.out z18_25_); (case side2 => exact HC1.out); rintro e w168 ⟨v685, rfl, ho0, hb⟩; refine ⟨_, rfl, ?_⟩; have HO686 := Aside0.mk (Kd.R_lower (Kd.R_newB (Kd.R_new' (Kd.R_new' (Kd.R_new' ho0 (Kd.R_lt zq18_18_)) (Kd.R_lt zq18_17_)) (Kd.R_lt zq18_16_)) (g := gb673) (o := .cells #[.int .i64 t669, .int .i64 t670, .int .i64 t671] 37 (0, 0)) z18_46_) (below_size z18_25_)); replace HO668 := Aside0.mk (Kd.R_elder' zq18_18_ (Kd.R_base ho0) hb); replace HO676 := Aside0.mk (Kd.R_elder' zq18_17_ (Kd.R_base ho0) hb); replace HO681 := Aside0.mk (Kd.R_elder' zq18_16_ (Kd.R_base ho0) hb); replace BK672 := bb_ BK672 (by refine b_ ?_; refine blk_far ?_ NB672_683.out _; exact b_ BK672.out) hb; replace BK673 := bb_ BK673 z18_46_ hb; replace BK678 := bb_ BK678 (by refine b_ ?_; refine blk_far ?_ NB678_683.out _; exact b_ BK678.out) hb; replace BK683 := Aside0.mk (blk_below (g := gb683) (o := .cells #[.slice Ao163 t679.length co163] 28 (0, 0)) (by refine b_ ?_; refine blk_put (cs := #[.slice none 0 0]) ?_ 0 _ rfl; exact b_ BK683.out) hb); replace HB := Aside0.mk (below_step z18_25_ hb)) | ((with_reducible refine gate_dst (N := 50) rfl ?_); refine bxg_ 50 #[.slice none 0 0] 28 ?_; intro gb688 hg w169 hbox hb; replace HO668 := Aside0.mk (Kd.R_below z18_9_ hb); replace HO676 := Aside0.mk (Kd.R_below z18_10_ hb); replace HO681 := Aside0.mk (Kd.R_below z18_12_ hb); replace HO686 := Aside0.mk (Kd.R_below z18_13_ hb); have BK688 := Aside0.mk (hbox); have GW688 : Aside0 (w.heap.size ≤ gb688) := bs_ hg z18_25_; have GE688 := GW688; replace HB := Aside0.mk (below_step z18_25_ hb); have NB672_688 := nl_ BK672 z18_2_ hg; have NB688_672 := ns_ NB672_688; replace BK672 := bb_ BK672 z18_2_ hb; have NB673_688 := nl_ BK673 z18_3_ hg; have NB688_673 := ns_ NB673_688; replace BK673 := bb_ BK673 z18_3_ hb; have NB678_688 := nl_ BK678 z18_6_ hg; have NB688_678 := ns_ NB678_688; replace BK678 := bb_ BK678 z18_6_ hb; have NB683_688 := nl_ BK683 z18_7_ hg; have NB688_683 := ns_ NB683_688; replace BK683 := bb_ BK683 z18_7_ hb; clear hb hbox hg; obtain ⟨Ao170, co170, eo170⟩ := Kd.R_slice HO686.out; subst eo170; have hnb171 := NB688_672.out; have hnc171 := NB672_688.out; have hnb172 := NB688_673.out; have hnc172 := NB673_688.out; have hnb173 := NB688_678.out; have hnc173 := NB678_688.out; have hnb174 := NB688_683.out; have hnc174 := NB683_688.out; have hcz175_0 : w169.cell? ⟨gb688, 0, none⟩ = some (.slice none 0 0) := (blk_cell BK688.out 0).trans rfl; have hfz175_0 := blk_frozen BK688.out 0) | ((with_reducible refine gc_ 26 rfl ?_); refine gL_ 325 Tryz.func26 #[.agg #[.slice Ao170 t684.length co170], .int .i64 t687] ?_; (with_reducible refine (impl_DropClue.calls kj110 _ _ t684 t687 t689 t692 _ ?side1 ?side2 A139.out).mono ?_); (case side1 => refine (Kd.R_reads' (e := 37) (base := w.heap.size) (ok := fun k_ => ((((True ∧ some k_ ≠ (.slice Ao149 t666.length co149 : Value).ownBlock) ∧ some k_ ≠ (.slice Ao155 t674.length co155 : Value).ownBlock) ∧ some k_ ≠ (.slice Ao163 t679.length co163 : Value).ownBlock) ∧ k_ ≠ gb673)) (n := t684.length) (c := co170) ?_).2.2; exact zq18_3_); (case side2 => exact (Kd.R_reads' HO686.out).2.1); rintro e w176 ⟨v690, rfl, ho0, hb⟩; refine ⟨_, rfl, ?_⟩; have HO691 := Aside0.mk (Kd.R_lower (Kd.R_newB (Kd.R_new' (Kd.R_new' (Kd.R_new' (Kd.R_new' ho0 (Kd.R_lt zq18_15_)) (Kd.R_lt zq18_14_)) (Kd.R_lt zq18_13_)) (Kd.R_lt zq18_3_)) (g := gb673) (o := .cells #[.int .i64 t669, .int .i64 t670, .int .i64 t671] 37 (0, 0)) z18_47_) (below_size z18_26_)); replace HO668 := Aside0.mk (Kd.R_elder' zq18_15_ (Kd.R_base ho0) hb); replace HO676 := Aside0.mk (Kd.R_elder' zq18_14_ (Kd.R_base ho0) hb); replace HO681 := Aside0.mk (Kd.R_elder' zq18_13_ (Kd.R_base ho0) hb); replace HO686 := Aside0.mk (Kd.R_elder' zq18_3_ (Kd.R_base ho0) hb); replace BK672 := bb_ BK672 (by refine b_ ?_; refine blk_far ?_ NB672_688.out _; exact b_ BK672.out) hb; replace BK673 := bb_ BK673 z18_47_ hb; replace BK678 := bb_ BK678 (by refine b_ ?_; refine blk_far ?_ NB678_688.out _; exact b_ BK678.out) hb; replace BK683 := bb_ BK683 (by refine b_ ?_; refine blk_far ?_ NB683_688.out _; exact b_ BK683.out) hb; replace BK688 := Aside0.mk (blk_below (g := gb688) (o := .cells #[.slice Ao170 t684.length co170] 28 (0, 0)) (by refine b_ ?_; refine blk_put (cs := #[.slice none 0 0]) ?_ 0 _ rfl; exact b_ BK688.out) hb); replace HB := Aside0.mk (below_step z18_26_ hb)) | ((with_reducible refine gate_dst (N := 52) rfl ?_); refine bxg_ 52 #[.slice none 0 0] 28 ?_; intro gb693 hg w177 hbox hb; replace HO668 := Aside0.mk (Kd.R_below z18_9_ hb); replace HO676 := Aside0.mk (Kd.R_below z18_10_ hb); replace HO681 := Aside0.mk (Kd.R_below z18_12_ hb); replace HO686 := Aside0.mk (Kd.R_below z18_13_ hb); replace HO691 := Aside0.mk (Kd.R_below z18_14_ hb); have BK693 := Aside0.mk (hbox); have GW693 : Aside0 (w.heap.size ≤ gb693) := bs_ hg z18_26_; have GE693 := GW693; replace HB := Aside0.mk (below_step z18_26_ hb); have NB672_693 := nl_ BK672 z18_2_ hg; have NB693_672 := ns_ NB672_693; replace BK672 := bb_ BK672 z18_2_ hb; have NB673_693 := nl_ BK673 z18_3_ hg; have NB693_673 := ns_ NB673_693; replace BK673 := bb_ BK673 z18_3_ hb; have NB678_693 := nl_ BK678 z18_6_ hg; have NB693_678 := ns_ NB678_693; replace BK678 := bb_ BK678 z18_6_ hb; have NB683_693 := nl_ BK683 z18_7_ hg; have NB693_683 := ns_ NB683_693; replace BK683 := bb_ BK683 z18_7_ hb; have NB688_693 := nl_ BK688 z18_4_ hg; have NB693_688 := ns_ NB688_693; replace BK688 := bb_ BK688 z18_4_ hb; clear hb hbox hg; obtain ⟨Ao178, co178, eo178⟩ := Kd.R_slice HO691.out; subst eo178; have hnb179 := NB693_672.out; have hnc179 := NB672_693.out; have hnb180 := NB693_673.out; have hnc180 := NB673_693.out; have hnb181 := NB693_678.out; have hnc181 := NB678_693.out; have hnb182 := NB693_683.out; have hnc182 := NB683_693.out; have hnb183 := NB693_688.out; have hnc183 := NB688_693.out; have hcz184_0 : w177.cell? ⟨gb693, 0, none⟩ = some (.slice none 0 0) := (blk_cell BK693.out 0).trans rfl; have hfz184_0 := blk_frozen BK693.out 0; have hcz185_0 : w177.cell? ⟨gb688, 0, none⟩ = some (.slice Ao170 t684.length co170) := (blk_cell BK688.out 0).trans rfl; have hfz185_0 := blk_frozen BK688.out 0) | ((with_reducible refine gc_ 27 rfl ?_); refine gL_ 331 Tryz.func27 #[.agg #[.slice Ao170 t684.length co170], .int .i64 t687] ?_; (with_reducible refine (spec_DropClue.calls kj110 _ _ t684 t687 t694 t697 _ ?side1 ?side2 A140.out).mono ?_); (case side1 => refine (Kd.R_reads' (e := 37) (base := w.heap.size) (ok := fun k_ => (((((True ∧ some k_ ≠ (.slice Ao149 t666.length co149 : Value).ownBlock) ∧ some k_ ≠ (.slice Ao155 t674.length co155 : Value).ownBlock) ∧ some k_ ≠ (.slice Ao163 t679.length co163 : Value).ownBlock) ∧ k_ ≠ gb673) ∧ some k_ ≠ (.slice Ao178 t689.length co178 : Value).ownBlock)) (n := t684.length) (c := co170) ?_).2.2; exact zq18_2_); (case side2 => exact (Kd.R_reads' HO686.out).2.1); rintro e w186 ⟨v695, rfl, ho0, hb⟩; refine ⟨_, rfl, ?_⟩; have HO696 := Aside0.mk (Kd.R_lower (Kd.R_newB (Kd.R_new' (Kd.R_new' (Kd.R_new' (Kd.R_new' (Kd.R_new' ho0 (Kd.R_lt zq18_12_)) (Kd.R_lt zq18_11_)) (Kd.R_lt zq18_10_)) (Kd.R_lt zq18_2_)) (Kd.R_lt zq18_9_)) (g := gb673) (o := .cells #[.int .i64 t669, .int .i64 t670, .int .i64 t671] 37 (0, 0)) z18_48_) (below_size z18_22_)); replace HO668 := Aside0.mk (Kd.R_elder' zq18_12_ (Kd.R_base ho0) hb); replace HO676 := Aside0.mk (Kd.R_elder' zq18_11_ (Kd.R_base ho0) hb); replace HO681 := Aside0.mk (Kd.R_elder' zq18_10_ (Kd.R_base ho0) hb); replace HO686 := Aside0.mk (Kd.R_elder' zq18_2_ (Kd.R_base ho0) hb); replace HO691 := Aside0.mk (Kd.R_elder' zq18_9_ (Kd.R_base ho0) hb); replace BK672 := bb_ BK672 (by refine b_ ?_; refine blk_far ?_ NB672_693.out _; exact b_ BK672.out) hb; replace BK673 := bb_ BK673 z18_48_ hb; replace BK678 := bb_ BK678 (by refine b_ ?_; refine blk_far ?_ NB678_693.out _; exact b_ BK678.out) hb; replace BK683 := bb_ BK683 (by refine b_ ?_; refine blk_far ?_ NB683_693.out _; exact b_ BK683.out) hb; replace BK688 := bb_ BK688 (by refine b_ ?_; refine blk_far ?_ NB688_693.out _; exact b_ BK688.out) hb; replace BK693 := Aside0.mk (blk_below (g := gb693) (o := .cells #[.slice Ao178 t689.length co178] 28 (0, 0)) (by refine b_ ?_; refine blk_put (cs := #[.slice none 0 0]) ?_ 0 _ rfl; exact b_ BK693.out) hb); replace HB := Aside0.mk (below_step z18_22_ hb)) | ((with_reducible refine gate_dst (N := 54) rfl ?_); refine bxg_ 54 #[.slice none 0 0] 28 ?_; intro gb698 hg w187 hbox hb; replace HO668 := Aside0.mk (Kd.R_below z18_9_ hb); replace HO676 := Aside0.mk (Kd.R_below z18_10_ hb); replace HO681 := Aside0.mk (Kd.R_below z18_12_ hb); replace HO686 := Aside0.mk (Kd.R_below z18_13_ hb); replace HO691 := Aside0.mk (Kd.R_below z18_14_ hb); replace HO696 := Aside0.mk (Kd.R_below z18_15_ hb); have BK698 := Aside0.mk (hbox); have GW698 : Aside0 (w.heap.size ≤ gb698) := bs_ hg z18_22_; have GE698 := GW698; replace HB := Aside0.mk (below_step z18_22_ hb); have NB672_698 := nl_ BK672 z18_2_ hg; have NB698_672 := ns_ NB672_698; replace BK672 := bb_ BK672 z18_2_ hb; have NB673_698 := nl_ BK673 z18_3_ hg; have NB698_673 := ns_ NB673_698; replace BK673 := bb_ BK673 z18_3_ hb; have NB678_698 := nl_ BK678 z18_6_ hg; have NB698_678 := ns_ NB678_698; replace BK678 := bb_ BK678 z18_6_ hb; have NB683_698 := nl_ BK683 z18_7_ hg; have NB698_683 := ns_ NB683_698; replace BK683 := bb_ BK683 z18_7_ hb; have NB688_698 := nl_ BK688 z18_4_ hg; have NB698_688 := ns_ NB688_698; replace BK688 := bb_ BK688 z18_4_ hb; have NB693_698 := nl_ BK693 z18_5_ hg; have NB698_693 := ns_ NB693_698; replace BK693 := bb_ BK693 z18_5_ hb; clear hb hbox hg; obtain ⟨Ao188, co188, eo188⟩ := Kd.R_slice HO696.out; subst eo188; have hnb189 := NB698_672.out; have hnc189 := NB672_698.out; have hnb190 := NB698_673.out; have hnc190 := NB673_698.out; have hnb191 := NB698_678.out; have hnc191 := NB678_698.out; have hnb192 := NB698_683.out; have hnc192 := NB683_698.out; have hnb193 := NB698_688.out; have hnc193 := NB688_698.out; have hnb194 := NB698_693.out; have hnc194 := NB693_698.out; have hcz195_0 : w187.cell? ⟨gb698, 0, none⟩ = some (.slice none 0 0) := (blk_cell BK698.out 0).trans rfl; have hfz195_0 := blk_frozen BK698.out 0) | ((with_reducible refine gc_ 28 rfl ?_); refine gL_ 336 Tryz.func28 #[.slice A1 l1.length c1] ?_; (with_reducible refine (spec_DrawDoesFit.calls kj110 _ _ l1 t699 t700 t701 t702 _ ?side1 ?side2 A141.out).mono ?_); (case side1 => exact Kd.C_below HR1.out z18_21_); (case side2 => exact HC1.out); rintro e w196 ⟨rfl, hb⟩; refine ⟨_, rfl, ?_⟩; replace HO668 := Aside0.mk (Kd.R_below (by refine rr_ ?_; exact (Kd.R_mono (Kd.R_far (p := ⟨gb698, 0, none⟩) (Kd.R_types HO668.out BK698.out (by decide)) (fun _ hk => hk.2) (.slice Ao188 t694.length co188)) (fun _ h_ => h_.1))) hb); replace HO676 := Aside0.mk (Kd.R_below (by refine rr_ ?_; exact (Kd.R_mono (Kd.R_far (p := ⟨gb698, 0, none⟩) (Kd.R_types HO676.out BK698.out (by decide)) (fun _ hk => hk.2) (.slice Ao188 t694.length co188)) (fun _ h_ => h_.1))) hb); replace HO681 := Aside0.mk (Kd.R_below (by refine rr_ ?_; exact (Kd.R_mono (Kd.R_far (p := ⟨gb698, 0, none⟩) (Kd.R_types HO681.out BK698.out (by decide)) (fun _ hk => hk.2) (.slice Ao188 t694.length co188)) (fun _ h_ => h_.1))) hb); replace HO686 := Aside0.mk (Kd.R_below (by refine rr_ ?_; exact (Kd.R_mono (Kd.R_far (p := ⟨gb698, 0, none⟩) (Kd.R_types HO686.out BK698.out (by decide)) (fun _ hk => hk.2) (.slice Ao188 t694.length co188)) (fun _ h_ => h_.1))) hb); replace HO691 := Aside0.mk (Kd.R_below (by refine rr_ ?_; exact (Kd.R_mono (Kd.R_far (p := ⟨gb698, 0, none⟩) (Kd.R_types HO691.out BK698.out (by decide)) (fun _ hk => hk.2) (.slice Ao188 t694.length co188)) (fun _ h_ => h_.1))) hb); replace HO696 := Aside0.mk (Kd.R_below (by refine rr_ ?_; exact (Kd.R_mono (Kd.R_far (p := ⟨gb698, 0, none⟩) (Kd.R_types HO696.out BK698.out (by decide)) (fun _ hk => hk.2) (.slice Ao188 t694.length co188)) (fun _ h_ => h_.1))) hb); replace BK672 := bb_ BK672 (by refine b_ ?_; refine blk_far ?_ NB672_698.out _; exact b_ BK672.out) hb; replace BK673 := bb_ BK673 (by refine b_ ?_; refine blk_far ?_ NB673_698.out _; exact b_ BK673.out) hb; replace BK678 := bb_ BK678 (by refine b_ ?_; refine blk_far ?_ NB678_698.out _; exact b_ BK678.out) hb; replace BK683 := bb_ BK683 (by refine b_ ?_; refine blk_far ?_ NB683_698.out _; exact b_ BK683.out) hb; replace BK688 := bb_ BK688 (by refine b_ ?_; refine blk_far ?_ NB688_698.out _; exact b_ BK688.out) hb; replace BK693 := bb_ BK693 (by refine b_ ?_; refine blk_far ?_ NB693_698.out _; exact b_ BK693.out) hb; replace BK698 := Aside0.mk (blk_below (g := gb698) (o := .cells #[.slice Ao188 t694.length co188] 28 (0, 0)) (by refine b_ ?_; refine blk_put (cs := #[.slice none 0 0]) ?_ 0 _ rfl; exact b_ BK698.out) hb); replace HB := Aside0.mk (below_step z18_21_ hb)) | ((with_reducible refine gate_dst (N := 56) rfl ?_); refine bxg_ 56 #[.int .i64 0, .int .i64 0, .int .i64 0] 37 ?_; intro gb703 hg w197 hbox hb; replace HO668 := Aside0.mk (Kd.R_below (Kd.R_elderB z18_9_ gb703 (Nat.le_of_eq hg.symm)) hb); replace HO676 := Aside0.mk (Kd.R_below (Kd.R_elderB z18_10_ gb703 (Nat.le_of_eq hg.symm)) hb); replace HO681 := Aside0.mk (Kd.R_below (Kd.R_elderB z18_12_ gb703 (Nat.le_of_eq hg.symm)) hb); replace HO686 := Aside0.mk (Kd.R_below (Kd.R_elderB z18_13_ gb703 (Nat.le_of_eq hg.symm)) hb); replace HO691 := Aside0.mk (Kd.R_below (Kd.R_elderB z18_14_ gb703 (Nat.le_of_eq hg.symm)) hb); replace HO696 := Aside0.mk (Kd.R_below (Kd.R_elderB z18_15_ gb703 (Nat.le_of_eq hg.symm)) hb); have BK703 := Aside0.mk (hbox); have GW703 : Aside0 (w.heap.size ≤ gb703) := bs_ hg z18_21_; have GE703 := GW703; replace HB := Aside0.mk (below_step z18_21_ hb); have NB672_703 := nl_ BK672 z18_2_ hg; have NB703_672 := ns_ NB672_703; replace BK672 := bb_ BK672 z18_2_ hb; have NB673_703 := nl_ BK673 z18_3_ hg; have NB703_673 := ns_ NB673_703; replace BK673 := bb_ BK673 z18_3_ hb; have NB678_703 := nl_ BK678 z18_6_ hg; have NB703_678 := ns_ NB678_703; replace BK678 := bb_ BK678 z18_6_ hb; have NB683_703 := nl_ BK683 z18_7_ hg; have NB703_683 := ns_ NB683_703; replace BK683 := bb_ BK683 z18_7_ hb; have NB688_703 := nl_ BK688 z18_4_ hg; have NB703_688 := ns_ NB688_703; replace BK688 := bb_ BK688 z18_4_ hb; have NB693_703 := nl_ BK693 z18_5_ hg; have NB703_693 := ns_ NB693_703; replace BK693 := bb_ BK693 z18_5_ hb; have NB698_703 := nl_ BK698 z18_8_ hg; have NB703_698 := ns_ NB698_703; replace BK698 := bb_ BK698 z18_8_ hb; clear hb hbox hg; have hnb198 := NB703_672.out; have hnc198 := NB672_703.out; have hnb199 := NB703_673.out; have hnc199 := NB673_703.out; have hnb200 := NB703_678.out; have hnc200 := NB678_703.out; have hnb201 := NB703_683.out; have hnc201 := NB683_703.out; have hnb202 := NB703_688.out; have hnc202 := NB688_703.out; have hnb203 := NB703_693.out; have hnc203 := NB693_703.out; have hnb204 := NB703_698.out; have hnc204 := NB698_703.out; have hcz205_0 : w197.cell? ⟨gb703, 0, none⟩ = some (.int .i64 0) := (blk_cell BK703.out 0).trans rfl; have hcz205_1 : w197.cell? ⟨gb703, 1, none⟩ = some (.int .i64 0) := (blk_cell BK703.out 1).trans rfl; have hcz205_2 : w197.cell? ⟨gb703, 2, none⟩ = some (.int .i64 0) := (blk_cell BK703.out 2).trans rfl; have hfz205_0 := blk_frozen BK703.out 0; have hfz205_1 := blk_frozen BK703.out 1; have hfz205_2 := blk_frozen BK703.out 2) | ((with_reducible refine gc_ 11 rfl ?_); refine gL_ 342 Tryz.func11 #[.agg #[.int .i64 t699, .int .i64 t700, .int .i64 t701], .string t702] ?_; (with_reducible refine (impl_DoesFit.calls kj110 t699 t700 t701 t702 t704 t705 _ A142.out).mono ?_); rintro e w206 ⟨rfl, hb⟩; refine ⟨_, rfl, ?_⟩; replace HO668 := Aside0.mk (Kd.R_below (by refine rr_ ?_; exact (Kd.R_mono (Kd.R_far (p := ⟨gb703, 2, none⟩) (Kd.R_far (p := ⟨gb703, 1, none⟩) (Kd.R_far (p := ⟨gb703, 0, none⟩) (Kd.R_mono HO668.out (fun k_ hk => (⟨hk, hk.2⟩ : _ ∧ k_ ≠ gb703))) (fun _ hk => hk.2) (.int .i64 t699)) (fun _ hk => hk.2) (.int .i64 t700)) (fun _ hk => hk.2) (.int .i64 t701)) (fun _ h_ => h_.1))) hb); replace HO676 := Aside0.mk (Kd.R_below (by refine rr_ ?_; exact (Kd.R_mono (Kd.R_far (p := ⟨gb703, 2, none⟩) (Kd.R_far (p := ⟨gb703, 1, none⟩) (Kd.R_far (p := ⟨gb703, 0, none⟩) (Kd.R_mono HO676.out (fun k_ hk => (⟨hk, hk.2⟩ : _ ∧ k_ ≠ gb703))) (fun _ hk => hk.2) (.int .i64 t699)) (fun _ hk => hk.2) (.int .i64 t700)) (fun _ hk => hk.2) (.int .i64 t701)) (fun _ h_ => h_.1))) hb); replace HO681 := Aside0.mk (Kd.R_below (by refine rr_ ?_; exact (Kd.R_mono (Kd.R_far (p := ⟨gb703, 2, none⟩) (Kd.R_far (p := ⟨gb703, 1, none⟩) (Kd.R_far (p := ⟨gb703, 0, none⟩) (Kd.R_mono HO681.out (fun k_ hk => (⟨hk, hk.2⟩ : _ ∧ k_ ≠ gb703))) (fun _ hk => hk.2) (.int .i64 t699)) (fun _ hk => hk.2) (.int .i64 t700)) (fun _ hk => hk.2) (.int .i64 t701)) (fun _ h_ => h_.1))) hb); replace HO686 := Aside0.mk (Kd.R_below (by refine rr_ ?_; exact (Kd.R_mono (Kd.R_far (p := ⟨gb703, 2, none⟩) (Kd.R_far (p := ⟨gb703, 1, none⟩) (Kd.R_far (p := ⟨gb703, 0, none⟩) (Kd.R_mono HO686.out (fun k_ hk => (⟨hk, hk.2⟩ : _ ∧ k_ ≠ gb703))) (fun _ hk => hk.2) (.int .i64 t699)) (fun _ hk => hk.2) (.int .i64 t700)) (fun _ hk => hk.2) (.int .i64 t701)) (fun _ h_ => h_.1))) hb); replace HO691 := Aside0.mk (Kd.R_below (by refine rr_ ?_; exact (Kd.R_mono (Kd.R_far (p := ⟨gb703, 2, none⟩) (Kd.R_far (p := ⟨gb703, 1, none⟩) (Kd.R_far (p := ⟨gb703, 0, none⟩) (Kd.R_mono HO691.out (fun k_ hk => (⟨hk, hk.2⟩ : _ ∧ k_ ≠ gb703))) (fun _ hk => hk.2) (.int .i64 t699)) (fun _ hk => hk.2) (.int .i64 t700)) (fun _ hk => hk.2) (.int .i64 t701)) (fun _ h_ => h_.1))) hb); replace HO696 := Aside0.mk (Kd.R_below (by refine rr_ ?_; exact (Kd.R_mono (Kd.R_far (p := ⟨gb703, 2, none⟩) (Kd.R_far (p := ⟨gb703, 1, none⟩) (Kd.R_far (p := ⟨gb703, 0, none⟩) (Kd.R_mono HO696.out (fun k_ hk => (⟨hk, hk.2⟩ : _ ∧ k_ ≠ gb703))) (fun _ hk => hk.2) (.int .i64 t699)) (fun _ hk => hk.2) (.int .i64 t700)) (fun _ hk => hk.2) (.int .i64 t701)) (fun _ h_ => h_.1))) hb); replace BK672 := bb_ BK672 (by refine b_ ?_; refine blk_far ?_ NB672_703.out _; refine b_ ?_; refine blk_far ?_ NB672_703.out _; refine b_ ?_; refine blk_far ?_ NB672_703.out _; exact b_ BK672.out) hb; replace BK673 := bb_ BK673 (by refine b_ ?_; refine blk_far ?_ NB673_703.out _; refine b_ ?_; refine blk_far ?_ NB673_703.out _; refine b_ ?_; refine blk_far ?_ NB673_703.out _; exact b_ BK673.out) hb; replace BK678 := bb_ BK678 (by refine b_ ?_; refine blk_far ?_ NB678_703.out _; refine b_ ?_; refine blk_far ?_ NB678_703.out _; refine b_ ?_; refine blk_far ?_ NB678_703.out _; exact b_ BK678.out) hb; replace BK683 := bb_ BK683 (by refine b_ ?_; refine blk_far ?_ NB683_703.out _; refine b_ ?_; refine blk_far ?_ NB683_703.out _; refine b_ ?_; refine blk_far ?_ NB683_703.out _; exact b_ BK683.out) hb; replace BK688 := bb_ BK688 (by refine b_ ?_; refine blk_far ?_ NB688_703.out _; refine b_ ?_; refine blk_far ?_ NB688_703.out _; refine b_ ?_; refine blk_far ?_ NB688_703.out _; exact b_ BK688.out) hb; replace BK693 := bb_ BK693 (by refine b_ ?_; refine blk_far ?_ NB693_703.out _; refine b_ ?_; refine blk_far ?_ NB693_703.out _; refine b_ ?_; refine blk_far ?_ NB693_703.out _; exact b_ BK693.out) hb; replace BK698 := bb_ BK698 (by refine b_ ?_; refine blk_far ?_ NB698_703.out _; refine b_ ?_; refine blk_far ?_ NB698_703.out _; refine b_ ?_; refine blk_far ?_ NB698_703.out _; exact b_ BK698.out) hb; replace BK703 := Aside0.mk (blk_below (g := gb703) (o := .cells #[.int .i64 t699, .int .i64 t700, .int .i64 t701] 37 (0, 0)) (by refine b_ ?_; refine blk_put (cs := #[.int .i64 t699, .int .i64 t700, .int .i64 0]) ?_ 2 _ rfl; refine b_ ?_; refine blk_put (cs := #[.int .i64 t699, .int .i64 0, .int .i64 0]) ?_ 1 _ rfl; refine b_ ?_; refine blk_put (cs := #[.int .i64 0, .int .i64 0, .int .i64 0]) ?_ 0 _ rfl; exact b_ BK703.out) hb); replace HB := Aside0.mk (below_step z18_17_ hb); have hcz207_0 : w206.cell? ⟨gb703, 0, none⟩ = some (.int .i64 t699) := (blk_cell BK703.out 0).trans rfl; have hcz207_1 : w206.cell? ⟨gb703, 1, none⟩ = some (.int .i64 t700) := (blk_cell BK703.out 1).trans rfl; have hcz207_2 : w206.cell? ⟨gb703, 2, none⟩ = some (.int .i64 t701) := (blk_cell BK703.out 2).trans rfl; have hfz207_0 := blk_frozen BK703.out 0; have hfz207_1 := blk_frozen BK703.out 1; have hfz207_2 := blk_frozen BK703.out 2) | ((with_reducible refine gc_ 29 rfl ?_); refine gL_ 348 Tryz.func29 #[.agg #[.int .i64 t699, .int .i64 t700, .int .i64 t701], .string t702] ?_; (with_reducible refine (spec_DoesFit.calls kj110 t699 t700 t701 t702 t706 t707 _ A143.out).mono ?_); rintro e w208 ⟨rfl, hb⟩; refine ⟨_, rfl, ?_⟩; replace HO668 := Aside0.mk (Kd.R_below z18_9_ hb); replace HO676 := Aside0.mk (Kd.R_below z18_10_ hb); replace HO681 := Aside0.mk (Kd.R_below z18_12_ hb); replace HO686 := Aside0.mk (Kd.R_below z18_13_ hb); replace HO691 := Aside0.mk (Kd.R_below z18_14_ hb); replace HO696 := Aside0.mk (Kd.R_below z18_15_ hb); replace BK672 := bb_ BK672 z18_2_ hb; replace BK673 := bb_ BK673 z18_3_ hb; replace BK678 := bb_ BK678 z18_6_ hb; replace BK683 := bb_ BK683 z18_7_ hb; replace BK688 := bb_ BK688 z18_4_ hb; replace BK693 := bb_ BK693 z18_5_ hb; replace BK698 := bb_ BK698 z18_8_ hb; replace BK703 := bb_ BK703 z18_11_ hb; replace HB := Aside0.mk (below_step z18_17_ hb)) | ((with_reducible refine gc_ 30 rfl ?_); refine gL_ 352 Tryz.func30 #[.slice A1 l1.length c1] ?_; (with_reducible refine (spec_DrawIsClue.calls kj110 _ _ l1 t708 t709 t710 _ ?side1 ?side2 A144.out).mono ?_); (case side1 => exact zc18_2_); (case side2 => exact HC1.out); rintro e w209 ⟨rfl, hb⟩; refine ⟨_, rfl, ?_⟩; replace HO668 := Aside0.mk (Kd.R_below z18_9_ hb); replace HO676 := Aside0.mk (Kd.R_below z18_10_ hb); replace HO681 := Aside0.mk (Kd.R_below z18_12_ hb); replace HO686 := Aside0.mk (Kd.R_below z18_13_ hb); replace HO691 := Aside0.mk (Kd.R_below z18_14_ hb); replace HO696 := Aside0.mk (Kd.R_below z18_15_ hb); replace BK672 := bb_ BK672 z18_2_ hb; replace BK673 := bb_ BK673 z18_3_ hb; replace BK678 := bb_ BK678 z18_6_ hb; replace BK683 := bb_ BK683 z18_7_ hb; replace BK688 := bb_ BK688 z18_4_ hb; replace BK693 := bb_ BK693 z18_5_ hb; replace BK698 := bb_ BK698 z18_8_ hb; replace BK703 := bb_ BK703 z18_11_ hb; replace HB := Aside0.mk (below_step z18_17_ hb)) | ((with_reducible refine gate_dst (N := 62) rfl ?_); refine bxg_ 62 #[.int .i64 0, .int .i64 0, .int .i64 0] 37 ?_; intro gb711 hg w210 hbox hb; replace HO668 := Aside0.mk (Kd.R_below (Kd.R_elderB z18_9_ gb711 (Nat.le_of_eq hg.symm)) hb); replace HO676 := Aside0.mk (Kd.R_below (Kd.R_elderB z18_10_ gb711 (Nat.le_of_eq hg.symm)) hb); replace HO681 := Aside0.mk (Kd.R_below (Kd.R_elderB z18_12_ gb711 (Nat.le_of_eq hg.symm)) hb); replace HO686 := Aside0.mk (Kd.R_below (Kd.R_elderB z18_13_ gb711 (Nat.le_of_eq hg.symm)) hb); replace HO691 := Aside0.mk (Kd.R_below (Kd.R_elderB z18_14_ gb711 (Nat.le_of_eq hg.symm)) hb); replace HO696 := Aside0.mk (Kd.R_below (Kd.R_elderB z18_15_ gb711 (Nat.le_of_eq hg.symm)) hb); have BK711 := Aside0.mk (hbox); have GW711 : Aside0 (w.heap.size ≤ gb711) := bs_ hg z18_17_; have GE711 := GW711; replace HB := Aside0.mk (below_step z18_17_ hb); have NB672_711 := nl_ BK672 z18_2_ hg; have NB711_672 := ns_ NB672_711; replace BK672 := bb_ BK672 z18_2_ hb; have NB673_711 := nl_ BK673 z18_3_ hg; have NB711_673 := ns_ NB673_711; replace BK673 := bb_ BK673 z18_3_ hb; have NB678_711 := nl_ BK678 z18_6_ hg; have NB711_678 := ns_ NB678_711; replace BK678 := bb_ BK678 z18_6_ hb; have NB683_711 := nl_ BK683 z18_7_ hg; have NB711_683 := ns_ NB683_711; replace BK683 := bb_ BK683 z18_7_ hb; have NB688_711 := nl_ BK688 z18_4_ hg; have NB711_688 := ns_ NB688_711; replace BK688 := bb_ BK688 z18_4_ hb; have NB693_711 := nl_ BK693 z18_5_ hg; have NB711_693 := ns_ NB693_711; replace BK693 := bb_ BK693 z18_5_ hb; have NB698_711 := nl_ BK698 z18_8_ hg; have NB711_698 := ns_ NB698_711; replace BK698 := bb_ BK698 z18_8_ hb; have NB703_711 := nl_ BK703 z18_11_ hg; have NB711_703 := ns_ NB703_711; replace BK703 := bb_ BK703 z18_11_ hb; clear hb hbox hg; have hnb211 := NB711_672.out; have hnc211 := NB672_711.out; have hnb212 := NB711_673.out; have hnc212 := NB673_711.out; have hnb213 := NB711_678.out; have hnc213 := NB678_711.out; have hnb214 := NB711_683.out; have hnc214 := NB683_711.out; have hnb215 := NB711_688.out; have hnc215 := NB688_711.out; have hnb216 := NB711_693.out; have hnc216 := NB693_711.out; have hnb217 := NB711_698.out; have hnc217 := NB698_711.out; have hnb218 := NB711_703.out; have hnc218 := NB703_711.out; have hcz219_0 : w210.cell? ⟨gb711, 0, none⟩ = some (.int .i64 0) := (blk_cell BK711.out 0).trans rfl; have hcz219_1 : w210.cell? ⟨gb711, 1, none⟩ = some (.int .i64 0) := (blk_cell BK711.out 1).trans rfl; have hcz219_2 : w210.cell? ⟨gb711, 2, none⟩ = some (.int .i64 0) := (blk_cell BK711.out 2).trans rfl; have hfz219_0 := blk_frozen BK711.out 0; have hfz219_1 := blk_frozen BK711.out 1; have hfz219_2 := blk_frozen BK711.out 2))
       (try simp only [Act.put, List.setIfInBounds_toArray, List.set_cons_zero, List.set_cons_succ])
       go_cut [397] from 300 to 397 (fun v397 wc => ∃ (kq : Nat) (x397_144 : Bool), v397 = .bool x397_144 ∧ Aside0 (laws_FnTicketsHidden.j4 kq t677 t687 t692 x397_144 t666 t669 t670 t671 t674 t684 t689 = some r) ∧ Aside0 (kq ≤ kj110) ∧ Aside0 (Kd.R k37 37 wc w.heap.size (fun k_ => some k_ ≠ ((.slice Ao155 t674.length co155) : Value).ownBlock ∧ some k_ ≠ ((.slice Ao170 t684.length co170) : Value).ownBlock ∧ some k_ ≠ ((.slice Ao178 t689.length co178) : Value).ownBlock ∧ k_ ≠ gb673) (.slice Ao149 t666.length co149) t666) ∧ Aside0 (Kd.R k37 37 wc w.heap.size (fun k_ => some k_ ≠ ((.slice Ao149 t666.length co149) : Value).ownBlock ∧ some k_ ≠ ((.slice Ao170 t684.length co170) : Value).ownBlock ∧ some k_ ≠ ((.slice Ao178 t689.length co178) : Value).ownBlock ∧ k_ ≠ gb673) (.slice Ao155 t674.length co155) t674) ∧ Aside0 (Kd.R k37 37 wc w.heap.size (fun k_ => some k_ ≠ ((.slice Ao149 t666.length co149) : Value).ownBlock ∧ some k_ ≠ ((.slice Ao155 t674.length co155) : Value).ownBlock ∧ some k_ ≠ ((.slice Ao178 t689.length co178) : Value).ownBlock ∧ k_ ≠ gb673) (.slice Ao170 t684.length co170) t684) ∧ Aside0 (Kd.R k37 37 wc w.heap.size (fun k_ => some k_ ≠ ((.slice Ao149 t666.length co149) : Value).ownBlock ∧ some k_ ≠ ((.slice Ao155 t674.length co155) : Value).ownBlock ∧ some k_ ≠ ((.slice Ao170 t684.length co170) : Value).ownBlock ∧ k_ ≠ gb673) (.slice Ao178 t689.length co178) t689) ∧ Aside0 (wc.heap[gb672]? = some (.cells #[(.slice Ao149 t666.length co149)] 28 (0, 0))) ∧ Aside0 (wc.heap[gb673]? = some (.cells #[.int .i64 t669, .int .i64 t670, .int .i64 t671] 37 (0, 0))) ∧ Aside0 (wc.heap[gb678]? = some (.cells #[(.slice Ao155 t674.length co155)] 28 (0, 0))) ∧ Aside0 (wc.heap[gb688]? = some (.cells #[(.slice Ao170 t684.length co170)] 28 (0, 0))) ∧ Aside0 (wc.heap[gb693]? = some (.cells #[(.slice Ao178 t689.length co178)] 28 (0, 0))) ∧ Aside0 (Below w.heap.size w wc))
       case first =>
        as_aux_lemma =>
        have H := HC145.out
        clear HC145
        by_cases c220 : (t677 != t682) = true
        · rw [if_pos c220] at H
          have c220b0 : (t677 != t682) = true := c220
          (try (have c220b1 : decide (t677 = t682) = false := by simpa using c220))
          (try (have c220b2 : (t677 == t682) = false := by simpa using c220))
          (try (have c220b3 : ¬ (t677 = t682) := by simpa using c220))
          clear c220
          (first | rw [c220b0] | (simp only [i64_w, i32_w]; rw [c220b0]) | skip)
          as_aux_lemma =>
           first | exact laws_FnTicketsHidden.j2_dead H hr_ | exact laws_FnTicketsHidden.j4_dead H hr_
        rw [if_neg c220] at H
        have c220b0 : (t677 != t682) = false := by simpa using c220
        (try (have c220b1 : decide (t677 = t682) = true := by simpa using c220))
        (try (have c220b2 : (t677 == t682) = true := by simpa using c220))
        clear c220
        (first | rw [c220b0] | (simp only [i64_w, i32_w]; rw [c220b0]) | skip)
        replace H := bd_ H; obtain ⟨t717, A223, H⟩ := H
        by_cases c224 : t717 = true
        rotate_left
        · replace H := bf_ c224 H; obtain ⟨rfl, H⟩ := H
          as_aux_lemma =>
           first | exact laws_FnTicketsHidden.j2_dead H hr_ | exact laws_FnTicketsHidden.j4_dead H hr_
        subst c224
        rw [if_pos rfl] at H
        by_cases c225 : (t692 != t697) = true
        · rw [if_pos c225] at H
          have c225b0 : (t692 != t697) = true := c225
          (try (have c225b1 : decide (t692 = t697) = false := by simpa using c225))
          (try (have c225b2 : (t692 == t697) = false := by simpa using c225))
          (try (have c225b3 : ¬ (t692 = t697) := by simpa using c225))
          clear c225
          as_aux_lemma =>
           first | exact laws_FnTicketsHidden.j2_dead H hr_ | exact laws_FnTicketsHidden.j4_dead H hr_
        rw [if_neg c225] at H
        have c225b0 : (t692 != t697) = false := by simpa using c225
        (try (have c225b1 : decide (t692 = t697) = true := by simpa using c225))
        (try (have c225b2 : (t692 == t697) = true := by simpa using c225))
        clear c225
        replace H := bd_ H; obtain ⟨t718, A229, H⟩ := H
        by_cases c230 : t718 = true
        rotate_left
        · replace H := bf_ c230 H; obtain ⟨rfl, H⟩ := H
          as_aux_lemma =>
           first | exact laws_FnTicketsHidden.j2_dead H hr_ | exact laws_FnTicketsHidden.j4_dead H hr_
        subst c230
        rw [if_pos rfl] at H
        by_cases c231 : (t705 != t707) = true
        · rw [if_pos c231] at H
          have c231b0 : (t705 != t707) = true := c231
          (try (have c231b1 : decide (t705 = t707) = false := by simpa using c231))
          (try (have c231b2 : (t705 == t707) = false := by simpa using c231))
          (try (have c231b3 : ¬ (t705 = t707) := by simpa using c231))
          clear c231
          as_aux_lemma =>
           first | exact laws_FnTicketsHidden.j2_dead H hr_ | exact laws_FnTicketsHidden.j4_dead H hr_
        rw [if_neg c231] at H
        have c231b0 : (t705 != t707) = false := by simpa using c231
        (try (have c231b1 : decide (t705 = t707) = true := by simpa using c231))
        (try (have c231b2 : (t705 == t707) = true := by simpa using c231))
        clear c231
        by_cases c236 : (t704 != t706) = true
        · rw [if_pos c236] at H
          have c236b0 : (t704 != t706) = true := c236
          (try (have c236b1 : decide (t704 = t706) = false := by simpa using c236))
          (try (have c236b2 : (t704 == t706) = false := by simpa using c236))
          (try (have c236b3 : ¬ (t704 = t706) := by simpa using c236))
          clear c236
          as_aux_lemma =>
           first | exact laws_FnTicketsHidden.j2_dead H hr_ | exact laws_FnTicketsHidden.j4_dead H hr_
        rw [if_neg c236] at H
        have c236b0 : (t704 != t706) = false := by simpa using c236
        (try (have c236b1 : decide (t704 = t706) = true := by simpa using c236))
        (try (have c236b2 : (t704 == t706) = true := by simpa using c236))
        clear c236
        as_aux_lemma =>
        replace H := bd_ H; obtain ⟨t719, A241, H⟩ := H
        replace H := bd_ H; obtain ⟨t720, A242, H⟩ := H
        by_cases c243 : (t719 != t720) = true
        · rw [if_pos c243] at H
          have c243b0 : (t719 != t720) = true := c243
          (try (have c243b1 : decide (t719 = t720) = false := by simpa using c243))
          (try (have c243b2 : (t719 == t720) = false := by simpa using c243))
          (try (have c243b3 : ¬ (t719 = t720) := by simpa using c243))
          clear c243
          as_aux_lemma =>
           first | exact laws_FnTicketsHidden.j2_dead H hr_ | exact laws_FnTicketsHidden.j4_dead H hr_
        rw [if_neg c243] at H
        have c243b0 : (t719 != t720) = false := by simpa using c243
        (try (have c243b1 : decide (t719 = t720) = true := by simpa using c243))
        (try (have c243b2 : (t719 == t720) = true := by simpa using c243))
        clear c243
        by_cases c250 : t705 = true
        · subst c250
          rw [if_pos rfl] at H
          replace H := bd_ H; obtain ⟨t721, A251, H⟩ := H
          as_aux_lemma =>
           have H' := Aside0.mk H
           clear H
           try go_wp2
           have n0_ : Aside0 (Kd.R k37 37 (((w210.setCell ⟨gb711, 0, none⟩ (.int .i64 t708)).setCell ⟨gb711, 1, none⟩ (.int .i64 t709)).setCell ⟨gb711, 2, none⟩ (.int .i64 t710)) w.heap.size (fun k_ => some k_ ≠ (.slice Ao155 t674.length co155 : Value).ownBlock ∧ some k_ ≠ (.slice Ao163 t679.length co163 : Value).ownBlock ∧ some k_ ≠ (.slice Ao170 t684.length co170 : Value).ownBlock ∧ some k_ ≠ (.slice Ao178 t689.length co178 : Value).ownBlock ∧ some k_ ≠ (.slice Ao188 t694.length co188 : Value).ownBlock ∧ k_ ≠ gb673 ∧ k_ ≠ gb703 ∧ k_ ≠ gb711) (.slice Ao149 t666.length co149) t666) := ⟨by refine rr_ ?_; exact Kd.R_mono (Kd.R_far (p := ⟨gb711, 2, none⟩) (Kd.R_far (p := ⟨gb711, 1, none⟩) (Kd.R_far (p := ⟨gb711, 0, none⟩) (Kd.R_mono HO668.out (fun k_ hk => (⟨hk, hk.2⟩ : _ ∧ k_ ≠ gb711))) (fun _ hk => hk.2) (.int .i64 t708)) (fun _ hk => hk.2) (.int .i64 t709)) (fun _ hk => hk.2) (.int .i64 t710)) (fun _ hk => ⟨hk.1.1.1.1.1.1.1.2, ⟨hk.1.1.1.1.1.1.2, ⟨hk.1.1.1.1.1.2, ⟨hk.1.1.1.1.2, ⟨hk.1.1.1.2, ⟨hk.1.1.1.1.1.1.1.1.2, ⟨hk.1.1.2, hk.1.2⟩⟩⟩⟩⟩⟩⟩)⟩
           have n1_ : Aside0 (Kd.R k37 37 (((w210.setCell ⟨gb711, 0, none⟩ (.int .i64 t708)).setCell ⟨gb711, 1, none⟩ (.int .i64 t709)).setCell ⟨gb711, 2, none⟩ (.int .i64 t710)) w.heap.size (fun k_ => some k_ ≠ (.slice Ao149 t666.length co149 : Value).ownBlock ∧ some k_ ≠ (.slice Ao163 t679.length co163 : Value).ownBlock ∧ some k_ ≠ (.slice Ao170 t684.length co170 : Value).ownBlock ∧ some k_ ≠ (.slice Ao178 t689.length co178 : Value).ownBlock ∧ some k_ ≠ (.slice Ao188 t694.length co188 : Value).ownBlock ∧ k_ ≠ gb673 ∧ k_ ≠ gb703 ∧ k_ ≠ gb711) (.slice Ao155 t674.length co155) t674) := ⟨by refine rr_ ?_; exact Kd.R_mono (Kd.R_far (p := ⟨gb711, 2, none⟩) (Kd.R_far (p := ⟨gb711, 1, none⟩) (Kd.R_far (p := ⟨gb711, 0, none⟩) (Kd.R_mono HO676.out (fun k_ hk => (⟨hk, hk.2⟩ : _ ∧ k_ ≠ gb711))) (fun _ hk => hk.2) (.int .i64 t708)) (fun _ hk => hk.2) (.int .i64 t709)) (fun _ hk => hk.2) (.int .i64 t710)) (fun _ hk => ⟨hk.1.1.1.1.1.1.1.1.2, ⟨hk.1.1.1.1.1.1.2, ⟨hk.1.1.1.1.1.2, ⟨hk.1.1.1.1.2, ⟨hk.1.1.1.2, ⟨hk.1.1.1.1.1.1.1.2, ⟨hk.1.1.2, hk.1.2⟩⟩⟩⟩⟩⟩⟩)⟩
           have n2_ : Aside0 (Kd.R k37 37 (((w210.setCell ⟨gb711, 0, none⟩ (.int .i64 t708)).setCell ⟨gb711, 1, none⟩ (.int .i64 t709)).setCell ⟨gb711, 2, none⟩ (.int .i64 t710)) w.heap.size (fun k_ => some k_ ≠ (.slice Ao149 t666.length co149 : Value).ownBlock ∧ some k_ ≠ (.slice Ao155 t674.length co155 : Value).ownBlock ∧ some k_ ≠ (.slice Ao170 t684.length co170 : Value).ownBlock ∧ some k_ ≠ (.slice Ao178 t689.length co178 : Value).ownBlock ∧ some k_ ≠ (.slice Ao188 t694.length co188 : Value).ownBlock ∧ k_ ≠ gb673 ∧ k_ ≠ gb703 ∧ k_ ≠ gb711) (.slice Ao163 t679.length co163) t679) := ⟨by refine rr_ ?_; exact Kd.R_mono (Kd.R_far (p := ⟨gb711, 2, none⟩) (Kd.R_far (p := ⟨gb711, 1, none⟩) (Kd.R_far (p := ⟨gb711, 0, none⟩) (Kd.R_mono HO681.out (fun k_ hk => (⟨hk, hk.2⟩ : _ ∧ k_ ≠ gb711))) (fun _ hk => hk.2) (.int .i64 t708)) (fun _ hk => hk.2) (.int .i64 t709)) (fun _ hk => hk.2) (.int .i64 t710)) (fun _ hk => ⟨hk.1.1.1.1.1.1.1.1.2, ⟨hk.1.1.1.1.1.1.1.2, ⟨hk.1.1.1.1.1.2, ⟨hk.1.1.1.1.2, ⟨hk.1.1.1.2, ⟨hk.1.1.1.1.1.1.2, ⟨hk.1.1.2, hk.1.2⟩⟩⟩⟩⟩⟩⟩)⟩
           have n3_ : Aside0 (Kd.R k37 37 (((w210.setCell ⟨gb711, 0, none⟩ (.int .i64 t708)).setCell ⟨gb711, 1, none⟩ (.int .i64 t709)).setCell ⟨gb711, 2, none⟩ (.int .i64 t710)) w.heap.size (fun k_ => some k_ ≠ (.slice Ao149 t666.length co149 : Value).ownBlock ∧ some k_ ≠ (.slice Ao155 t674.length co155 : Value).ownBlock ∧ some k_ ≠ (.slice Ao163 t679.length co163 : Value).ownBlock ∧ some k_ ≠ (.slice Ao178 t689.length co178 : Value).ownBlock ∧ some k_ ≠ (.slice Ao188 t694.length co188 : Value).ownBlock ∧ k_ ≠ gb673 ∧ k_ ≠ gb703 ∧ k_ ≠ gb711) (.slice Ao170 t684.length co170) t684) := ⟨by refine rr_ ?_; exact Kd.R_mono (Kd.R_far (p := ⟨gb711, 2, none⟩) (Kd.R_far (p := ⟨gb711, 1, none⟩) (Kd.R_far (p := ⟨gb711, 0, none⟩) (Kd.R_mono HO686.out (fun k_ hk => (⟨hk, hk.2⟩ : _ ∧ k_ ≠ gb711))) (fun _ hk => hk.2) (.int .i64 t708)) (fun _ hk => hk.2) (.int .i64 t709)) (fun _ hk => hk.2) (.int .i64 t710)) (fun _ hk => ⟨hk.1.1.1.1.1.1.1.1.2, ⟨hk.1.1.1.1.1.1.1.2, ⟨hk.1.1.1.1.1.1.2, ⟨hk.1.1.1.1.2, ⟨hk.1.1.1.2, ⟨hk.1.1.1.1.1.2, ⟨hk.1.1.2, hk.1.2⟩⟩⟩⟩⟩⟩⟩)⟩
           have n4_ : Aside0 (Kd.R k37 37 (((w210.setCell ⟨gb711, 0, none⟩ (.int .i64 t708)).setCell ⟨gb711, 1, none⟩ (.int .i64 t709)).setCell ⟨gb711, 2, none⟩ (.int .i64 t710)) w.heap.size (fun k_ => some k_ ≠ (.slice Ao149 t666.length co149 : Value).ownBlock ∧ some k_ ≠ (.slice Ao155 t674.length co155 : Value).ownBlock ∧ some k_ ≠ (.slice Ao163 t679.length co163 : Value).ownBlock ∧ some k_ ≠ (.slice Ao170 t684.length co170 : Value).ownBlock ∧ some k_ ≠ (.slice Ao188 t694.length co188 : Value).ownBlock ∧ k_ ≠ gb673 ∧ k_ ≠ gb703 ∧ k_ ≠ gb711) (.slice Ao178 t689.length co178) t689) := ⟨by refine rr_ ?_; exact Kd.R_mono (Kd.R_far (p := ⟨gb711, 2, none⟩) (Kd.R_far (p := ⟨gb711, 1, none⟩) (Kd.R_far (p := ⟨gb711, 0, none⟩) (Kd.R_mono HO691.out (fun k_ hk => (⟨hk, hk.2⟩ : _ ∧ k_ ≠ gb711))) (fun _ hk => hk.2) (.int .i64 t708)) (fun _ hk => hk.2) (.int .i64 t709)) (fun _ hk => hk.2) (.int .i64 t710)) (fun _ hk => ⟨hk.1.1.1.1.1.1.1.1.2, ⟨hk.1.1.1.1.1.1.1.2, ⟨hk.1.1.1.1.1.1.2, ⟨hk.1.1.1.1.1.2, ⟨hk.1.1.1.2, ⟨hk.1.1.1.1.2, ⟨hk.1.1.2, hk.1.2⟩⟩⟩⟩⟩⟩⟩)⟩
           have n5_ : Aside0 (Kd.R k37 37 (((w210.setCell ⟨gb711, 0, none⟩ (.int .i64 t708)).setCell ⟨gb711, 1, none⟩ (.int .i64 t709)).setCell ⟨gb711, 2, none⟩ (.int .i64 t710)) w.heap.size (fun k_ => some k_ ≠ (.slice Ao149 t666.length co149 : Value).ownBlock ∧ some k_ ≠ (.slice Ao155 t674.length co155 : Value).ownBlock ∧ some k_ ≠ (.slice Ao163 t679.length co163 : Value).ownBlock ∧ some k_ ≠ (.slice Ao170 t684.length co170 : Value).ownBlock ∧ some k_ ≠ (.slice Ao178 t689.length co178 : Value).ownBlock ∧ k_ ≠ gb673 ∧ k_ ≠ gb703 ∧ k_ ≠ gb711) (.slice Ao188 t694.length co188) t694) := ⟨by refine rr_ ?_; exact Kd.R_mono (Kd.R_far (p := ⟨gb711, 2, none⟩) (Kd.R_far (p := ⟨gb711, 1, none⟩) (Kd.R_far (p := ⟨gb711, 0, none⟩) (Kd.R_mono HO696.out (fun k_ hk => (⟨hk, hk.2⟩ : _ ∧ k_ ≠ gb711))) (fun _ hk => hk.2) (.int .i64 t708)) (fun _ hk => hk.2) (.int .i64 t709)) (fun _ hk => hk.2) (.int .i64 t710)) (fun _ hk => ⟨hk.1.1.1.1.1.1.1.1.2, ⟨hk.1.1.1.1.1.1.1.2, ⟨hk.1.1.1.1.1.1.2, ⟨hk.1.1.1.1.1.2, ⟨hk.1.1.1.1.2, ⟨hk.1.1.1.2, ⟨hk.1.1.2, hk.1.2⟩⟩⟩⟩⟩⟩⟩)⟩
           have n6_ : Aside0 ((((w210.setCell ⟨gb711, 0, none⟩ (.int .i64 t708)).setCell ⟨gb711, 1, none⟩ (.int .i64 t709)).setCell ⟨gb711, 2, none⟩ (.int .i64 t710)).heap[gb672]? = some (.cells #[.slice Ao149 t666.length co149] 28 (0, 0))) := ⟨by refine b_ ?_; refine blk_far ?_ NB672_711.out _; refine b_ ?_; refine blk_far ?_ NB672_711.out _; refine b_ ?_; refine blk_far ?_ NB672_711.out _; exact b_ BK672.out⟩
           have n7_ : Aside0 ((((w210.setCell ⟨gb711, 0, none⟩ (.int .i64 t708)).setCell ⟨gb711, 1, none⟩ (.int .i64 t709)).setCell ⟨gb711, 2, none⟩ (.int .i64 t710)).heap[gb673]? = some (.cells #[.int .i64 t669, .int .i64 t670, .int .i64 t671] 37 (0, 0))) := ⟨by refine b_ ?_; refine blk_far ?_ NB673_711.out _; refine b_ ?_; refine blk_far ?_ NB673_711.out _; refine b_ ?_; refine blk_far ?_ NB673_711.out _; exact b_ BK673.out⟩
           have n8_ : Aside0 ((((w210.setCell ⟨gb711, 0, none⟩ (.int .i64 t708)).setCell ⟨gb711, 1, none⟩ (.int .i64 t709)).setCell ⟨gb711, 2, none⟩ (.int .i64 t710)).heap[gb678]? = some (.cells #[.slice Ao155 t674.length co155] 28 (0, 0))) := ⟨by refine b_ ?_; refine blk_far ?_ NB678_711.out _; refine b_ ?_; refine blk_far ?_ NB678_711.out _; refine b_ ?_; refine blk_far ?_ NB678_711.out _; exact b_ BK678.out⟩
           have n9_ : Aside0 ((((w210.setCell ⟨gb711, 0, none⟩ (.int .i64 t708)).setCell ⟨gb711, 1, none⟩ (.int .i64 t709)).setCell ⟨gb711, 2, none⟩ (.int .i64 t710)).heap[gb683]? = some (.cells #[.slice Ao163 t679.length co163] 28 (0, 0))) := ⟨by refine b_ ?_; refine blk_far ?_ NB683_711.out _; refine b_ ?_; refine blk_far ?_ NB683_711.out _; refine b_ ?_; refine blk_far ?_ NB683_711.out _; exact b_ BK683.out⟩
           have n10_ : Aside0 ((((w210.setCell ⟨gb711, 0, none⟩ (.int .i64 t708)).setCell ⟨gb711, 1, none⟩ (.int .i64 t709)).setCell ⟨gb711, 2, none⟩ (.int .i64 t710)).heap[gb688]? = some (.cells #[.slice Ao170 t684.length co170] 28 (0, 0))) := ⟨by refine b_ ?_; refine blk_far ?_ NB688_711.out _; refine b_ ?_; refine blk_far ?_ NB688_711.out _; refine b_ ?_; refine blk_far ?_ NB688_711.out _; exact b_ BK688.out⟩
           have n11_ : Aside0 ((((w210.setCell ⟨gb711, 0, none⟩ (.int .i64 t708)).setCell ⟨gb711, 1, none⟩ (.int .i64 t709)).setCell ⟨gb711, 2, none⟩ (.int .i64 t710)).heap[gb693]? = some (.cells #[.slice Ao178 t689.length co178] 28 (0, 0))) := ⟨by refine b_ ?_; refine blk_far ?_ NB693_711.out _; refine b_ ?_; refine blk_far ?_ NB693_711.out _; refine b_ ?_; refine blk_far ?_ NB693_711.out _; exact b_ BK693.out⟩
           have n12_ : Aside0 ((((w210.setCell ⟨gb711, 0, none⟩ (.int .i64 t708)).setCell ⟨gb711, 1, none⟩ (.int .i64 t709)).setCell ⟨gb711, 2, none⟩ (.int .i64 t710)).heap[gb698]? = some (.cells #[.slice Ao188 t694.length co188] 28 (0, 0))) := ⟨by refine b_ ?_; refine blk_far ?_ NB698_711.out _; refine b_ ?_; refine blk_far ?_ NB698_711.out _; refine b_ ?_; refine blk_far ?_ NB698_711.out _; exact b_ BK698.out⟩
           have n13_ : Aside0 ((((w210.setCell ⟨gb711, 0, none⟩ (.int .i64 t708)).setCell ⟨gb711, 1, none⟩ (.int .i64 t709)).setCell ⟨gb711, 2, none⟩ (.int .i64 t710)).heap[gb703]? = some (.cells #[.int .i64 t699, .int .i64 t700, .int .i64 t701] 37 (0, 0))) := ⟨by refine b_ ?_; refine blk_far ?_ NB703_711.out _; refine b_ ?_; refine blk_far ?_ NB703_711.out _; refine b_ ?_; refine blk_far ?_ NB703_711.out _; exact b_ BK703.out⟩
           have n14_ : Aside0 ((((w210.setCell ⟨gb711, 0, none⟩ (.int .i64 t708)).setCell ⟨gb711, 1, none⟩ (.int .i64 t709)).setCell ⟨gb711, 2, none⟩ (.int .i64 t710)).heap[gb711]? = some (.cells #[.int .i64 t708, .int .i64 t709, .int .i64 t710] 37 (0, 0))) := ⟨by refine b_ ?_; refine blk_put (cs := #[.int .i64 t708, .int .i64 t709, .int .i64 0]) ?_ 2 _ rfl; refine b_ ?_; refine blk_put (cs := #[.int .i64 t708, .int .i64 0, .int .i64 0]) ?_ 1 _ rfl; refine b_ ?_; refine blk_put (cs := #[.int .i64 0, .int .i64 0, .int .i64 0]) ?_ 0 _ rfl; exact b_ BK711.out⟩
           have n15_ : Aside0 (Below w.heap.size w (((w210.setCell ⟨gb711, 0, none⟩ (.int .i64 t708)).setCell ⟨gb711, 1, none⟩ (.int .i64 t709)).setCell ⟨gb711, 2, none⟩ (.int .i64 t710))) := ⟨by repeat (first | (with_reducible first | exact HB.out | apply below_alloc | apply pw_below_drewN | apply below_drew1 | refine below_set ?_ GE672.out | refine below_set ?_ GE673.out | refine below_set ?_ GE678.out | refine below_set ?_ GE683.out | refine below_set ?_ GE688.out | refine below_set ?_ GE693.out | refine below_set ?_ GE698.out | refine below_set ?_ GE703.out | refine below_set ?_ GE711.out) | exact HB.out)⟩
           generalize (((w210.setCell ⟨gb711, 0, none⟩ (.int .i64 t708)).setCell ⟨gb711, 1, none⟩ (.int .i64 t709)).setCell ⟨gb711, 2, none⟩ (.int .i64 t710)) = w252 at n0_ n1_ n2_ n3_ n4_ n5_ n6_ n7_ n8_ n9_ n10_ n11_ n12_ n13_ n14_ n15_ ⊢
           have HO668 := n0_
           have HO676 := n1_
           have HO681 := n2_
           have HO686 := n3_
           have HO691 := n4_
           have HO696 := n5_
           have BK672 := n6_
           have BK673 := n7_
           have BK678 := n8_
           have BK683 := n9_
           have BK688 := n10_
           have BK693 := n11_
           have BK698 := n12_
           have BK703 := n13_
           have BK711 := n14_
           have HB := n15_
           clear n0_ n1_ n2_ n3_ n4_ n5_ n6_ n7_ n8_ n9_ n10_ n11_ n12_ n13_ n14_ n15_
           replace HO668 := Aside0.mk (Kd.R_drew HO668.out)
           replace HO676 := Aside0.mk (Kd.R_drew HO676.out)
           replace HO681 := Aside0.mk (Kd.R_drew HO681.out)
           replace HO686 := Aside0.mk (Kd.R_drew HO686.out)
           replace HO691 := Aside0.mk (Kd.R_drew HO691.out)
           replace HO696 := Aside0.mk (Kd.R_drew HO696.out)
           replace BK672 := Aside0.mk (blk_drew BK672.out)
           replace BK673 := Aside0.mk (blk_drew BK673.out)
           replace BK678 := Aside0.mk (blk_drew BK678.out)
           replace BK683 := Aside0.mk (blk_drew BK683.out)
           replace BK688 := Aside0.mk (blk_drew BK688.out)
           replace BK693 := Aside0.mk (blk_drew BK693.out)
           replace BK698 := Aside0.mk (blk_drew BK698.out)
           replace BK703 := Aside0.mk (blk_drew BK703.out)
           replace BK711 := Aside0.mk (blk_drew BK711.out)
           replace HB := Aside0.mk (below_drew1 HB.out)
           refine start_ (n := 45) (S := fun w' => w'.cell? ⟨gb678, 0, none⟩ = some (.slice Ao155 t674.length co155) ∧ w'.cell? ⟨gb683, 0, none⟩ = some (.slice Ao163 t679.length co163) ∧ w'.cell? ⟨gb693, 0, none⟩ = some (.slice Ao178 t689.length co178) ∧ w'.cell? ⟨gb698, 0, none⟩ = some (.slice Ao188 t694.length co188) ∧ w'.cell? ⟨gb711, 0, none⟩ = some (.int .i64 t708) ∧ w'.cell? ⟨gb711, 1, none⟩ = some (.int .i64 t709) ∧ w'.cell? ⟨gb711, 2, none⟩ = some (.int .i64 t710) ∧ w'.cell? ⟨gb703, 0, none⟩ = some (.int .i64 t699) ∧ w'.cell? ⟨gb703, 1, none⟩ = some (.int .i64 t700) ∧ w'.cell? ⟨gb703, 2, none⟩ = some (.int .i64 t701)) (ds := []) #[false, false, false, false, false, false, false, false, false, false, false, false, false, false, false, false, false, false, false, false, false, false, false, false, false, false, false, false, false, false, false, false, false, false, false, false, false, false, false, false, false, false, false, false, false] (by kernel_rfl) rfl rfl ⟨(blk_cell BK678.out 0).trans rfl, (blk_cell BK683.out 0).trans rfl, (blk_cell BK693.out 0).trans rfl, (blk_cell BK698.out 0).trans rfl, (blk_cell BK711.out 0).trans rfl, (blk_cell BK711.out 1).trans rfl, (blk_cell BK711.out 2).trans rfl, (blk_cell BK703.out 0).trans rfl, (blk_cell BK703.out 1).trans rfl, (blk_cell BK703.out 2).trans rfl⟩ (fun hHeld => ?_); refine with_tabW laws_FnTicketsHidden.tab47 laws_FnTicketsHidden.bits47 (fun HT_ HW_ => ?_)
           generalize w252.drew = w253 at HO668 HO676 HO681 HO686 HO691 HO696 BK672 BK673 BK678 BK683 BK688 BK693 BK698 BK703 BK711 HB hHeld ⊢
           refine pq_ 0 353 ?_
           refine pq_ 1 354 ?_
           refine pq_ 2 355 ?_
           refine pq_ 3 356 ?_
           refine take_ (i := 4) (N := some 357) (v := ?_) (a' := ?_) #[true, true, true, true, true, false, false, false, false, false, false, false, false, false, false, false, false, false, false, false, false, false, false, false, false, false, false, false, false, false, false, false, false, false, false, false, false, false, false, false, false, false, false, false, false] rfl rfl (take_ofW HT_.out HW_.out (by kernel_rfl)) (fun _ _ _ h => h) (Or.inl ⟨by rfl, ?_⟩) hHeld ?_ ?_
           rotate_left
           · rintro w' ⟨s0, s1, s2, s3, s4, s5, s6, s7, s8, s9⟩
             go_simp
             with_reducible rfl
           rotate_left
           · simp only [Act.put, List.setIfInBounds_toArray, List.set_cons_zero, List.set_cons_succ, i64_w, i32_w]
             rfl
           refine take_ (i := 5) (N := some 358) (v := ?_) (a' := ?_) #[true, true, true, true, true, true, false, false, false, false, false, false, false, false, false, false, false, false, false, false, false, false, false, false, false, false, false, false, false, false, false, false, false, false, false, false, false, false, false, false, false, false, false, false, false] rfl rfl (take_ofW HT_.out HW_.out (by kernel_rfl)) (fun _ _ _ h => h) (Or.inl ⟨by rfl, ?_⟩) hHeld ?_ ?_
           rotate_left
           · rintro w' ⟨s0, s1, s2, s3, s4, s5, s6, s7, s8, s9⟩
             go_simp
             with_reducible rfl
           rotate_left
           · simp only [Act.put, List.setIfInBounds_toArray, List.set_cons_zero, List.set_cons_succ, i64_w, i32_w]
             rfl
           refine one_ (i := 6) (N := some 359) #[true, true, true, true, true, true, true, false, false, false, false, false, false, false, false, false, false, false, false, false, false, false, false, false, false, false, false, false, false, false, false, false, false, false, false, false, false, false, false, false, false, false, false, false, false] rfl rfl (one_of HT_.out (by kernel_rfl)) (by decide) (fun K hK => ?_)
           refine goes_ Tryz.func9 (by kernel_rfl) rfl #[.agg #[.slice Ao155 t674.length co155], .agg #[.slice Ao163 t679.length co163]] (by rfl) rfl rfl z18_1_ ?_
           with_reducible refine (laws_iPuzzle.calls kj110 _ _ t674 _ _ t679 true _ ?side1 ?side2 ?side3 ?side4 A223.out).mono ?_
           (case side1 => exact zc18_5_)
           (case side2 => exact (Kd.R_reads' HO676.out).2.1)
           (case side3 => exact zc18_6_)
           (case side4 => exact (Kd.R_reads' HO681.out).2.1)
           rintro e w254 ⟨rfl, hb⟩
           refine ⟨_, rfl, ?_⟩
           replace HO668 := Aside0.mk (Kd.R_below z18_9_ hb)
           replace HO676 := Aside0.mk (Kd.R_below z18_10_ hb)
           replace HO681 := Aside0.mk (Kd.R_below z18_12_ hb)
           replace HO686 := Aside0.mk (Kd.R_below z18_13_ hb)
           replace HO691 := Aside0.mk (Kd.R_below z18_14_ hb)
           replace HO696 := Aside0.mk (Kd.R_below z18_15_ hb)
           replace BK672 := bb_ BK672 z18_2_ hb
           replace BK673 := bb_ BK673 z18_3_ hb
           replace BK678 := bb_ BK678 z18_6_ hb
           replace BK683 := bb_ BK683 z18_7_ hb
           replace BK688 := bb_ BK688 z18_4_ hb
           replace BK693 := bb_ BK693 z18_5_ hb
           replace BK698 := bb_ BK698 z18_8_ hb
           replace BK703 := bb_ BK703 z18_11_ hb
           replace BK711 := bb_ BK711 z18_16_ hb
           replace HB := Aside0.mk (below_step z18_0_ hb)
           
           
           
           
           refine hK.out _ _ ⟨(blk_cell BK678.out 0).trans rfl, (blk_cell BK683.out 0).trans rfl, (blk_cell BK693.out 0).trans rfl, (blk_cell BK698.out 0).trans rfl, (blk_cell BK711.out 0).trans rfl, (blk_cell BK711.out 1).trans rfl, (blk_cell BK711.out 2).trans rfl, (blk_cell BK703.out 0).trans rfl, (blk_cell BK703.out 1).trans rfl, (blk_cell BK703.out 2).trans rfl⟩ (fun hHeld => ?_)
           clear hK K
           refine norm_ (a' := ?_) ?_ ?_
           rotate_left
           · show Act.put _ (some 359) _ = _
             simp only [Act.put, List.setIfInBounds_toArray, List.set_cons_zero, List.set_cons_succ, i64_w, i32_w]
             rfl
           refine pq_ 7 360 ?_
           refine pq_ 8 361 ?_
           refine pq_ 9 362 ?_
           refine pq_ 10 363 ?_
           refine pq_ 11 364 ?_
           refine pq_ 12 365 ?_
           refine pq_ 13 366 ?_
           refine pq_ 14 367 ?_
           refine take_ (i := 15) (N := some 368) (v := ?_) (a' := ?_) #[true, true, true, true, true, true, true, true, true, true, true, true, true, true, true, true, false, false, false, false, false, false, false, false, false, false, false, false, false, false, false, false, false, false, false, false, false, false, false, false, false, false, false, false, false] rfl rfl (take_ofW HT_.out HW_.out (by kernel_rfl)) (fun _ _ _ h => h) (Or.inl ⟨by rfl, ?_⟩) hHeld ?_ ?_
           rotate_left
           · rintro w' ⟨s0, s1, s2, s3, s4, s5, s6, s7, s8, s9⟩
             go_simp
             with_reducible rfl
           rotate_left
           · simp only [Act.put, List.setIfInBounds_toArray, List.set_cons_zero, List.set_cons_succ, i64_w, i32_w]
             rfl
           refine take_ (i := 16) (N := some 369) (v := ?_) (a' := ?_) #[true, true, true, true, true, true, true, true, true, true, true, true, true, true, true, true, true, false, false, false, false, false, false, false, false, false, false, false, false, false, false, false, false, false, false, false, false, false, false, false, false, false, false, false, false] rfl rfl (take_ofW HT_.out HW_.out (by kernel_rfl)) (fun _ _ _ h => h) (Or.inl ⟨by rfl, ?_⟩) hHeld ?_ ?_
           rotate_left
           · rintro w' ⟨s0, s1, s2, s3, s4, s5, s6, s7, s8, s9⟩
             go_simp
             with_reducible rfl
           rotate_left
           · simp only [Act.put, List.setIfInBounds_toArray, List.set_cons_zero, List.set_cons_succ, i64_w, i32_w]
             rfl
           refine one_ (i := 17) (N := some 370) #[true, true, true, true, true, true, true, true, true, true, true, true, true, true, true, true, true, true, false, false, false, false, false, false, false, false, false, false, false, false, false, false, false, false, false, false, false, false, false, false, false, false, false, false, false] rfl rfl (one_of HT_.out (by kernel_rfl)) (by decide) (fun K hK => ?_)
           refine goes_ Tryz.func9 (by kernel_rfl) rfl #[.agg #[.slice Ao178 t689.length co178], .agg #[.slice Ao188 t694.length co188]] (by rfl) rfl rfl z18_1_ ?_
           with_reducible refine (laws_iPuzzle.calls kj110 _ _ t689 _ _ t694 true _ ?side1 ?side2 ?side3 ?side4 A229.out).mono ?_
           (case side1 => exact zc18_7_)
           (case side2 => exact (Kd.R_reads' HO691.out).2.1)
           (case side3 => exact zc18_8_)
           (case side4 => exact (Kd.R_reads' HO696.out).2.1)
           rintro e w255 ⟨rfl, hb⟩
           refine ⟨_, rfl, ?_⟩
           replace HO668 := Aside0.mk (Kd.R_below z18_9_ hb)
           replace HO676 := Aside0.mk (Kd.R_below z18_10_ hb)
           replace HO681 := Aside0.mk (Kd.R_below z18_12_ hb)
           replace HO686 := Aside0.mk (Kd.R_below z18_13_ hb)
           replace HO691 := Aside0.mk (Kd.R_below z18_14_ hb)
           replace HO696 := Aside0.mk (Kd.R_below z18_15_ hb)
           replace BK672 := bb_ BK672 z18_2_ hb
           replace BK673 := bb_ BK673 z18_3_ hb
           replace BK678 := bb_ BK678 z18_6_ hb
           replace BK683 := bb_ BK683 z18_7_ hb
           replace BK688 := bb_ BK688 z18_4_ hb
           replace BK693 := bb_ BK693 z18_5_ hb
           replace BK698 := bb_ BK698 z18_8_ hb
           replace BK703 := bb_ BK703 z18_11_ hb
           replace BK711 := bb_ BK711 z18_16_ hb
           replace HB := Aside0.mk (below_step z18_0_ hb)
           
           
           
           
           refine hK.out _ _ ⟨(blk_cell BK678.out 0).trans rfl, (blk_cell BK683.out 0).trans rfl, (blk_cell BK693.out 0).trans rfl, (blk_cell BK698.out 0).trans rfl, (blk_cell BK711.out 0).trans rfl, (blk_cell BK711.out 1).trans rfl, (blk_cell BK711.out 2).trans rfl, (blk_cell BK703.out 0).trans rfl, (blk_cell BK703.out 1).trans rfl, (blk_cell BK703.out 2).trans rfl⟩ (fun hHeld => ?_)
           clear hK K
           refine norm_ (a' := ?_) ?_ ?_
           rotate_left
           · show Act.put _ (some 370) _ = _
             simp only [Act.put, List.setIfInBounds_toArray, List.set_cons_zero, List.set_cons_succ, i64_w, i32_w]
             rfl
           refine pq_ 18 371 ?_
           refine pq_ 19 372 ?_
           refine pq_ 20 373 ?_
           refine pq_ 21 374 ?_
           refine pq_ 22 375 ?_
           refine pq_ 23 376 ?_
           refine pq_ 24 377 ?_
           refine pq_ 25 378 ?_
           refine pq_ 26 379 ?_
           refine pq_ 27 380 ?_
           refine pq_ 28 381 ?_
           refine pq_ 29 382 ?_
           refine pq_ 30 383 ?_
           refine take_ (i := 31) (N := some 384) (v := ?_) (a' := ?_) #[true, true, true, true, true, true, true, true, true, true, true, true, true, true, true, true, true, true, true, true, true, true, true, true, true, true, true, true, true, true, true, true, false, false, false, false, false, false, false, false, false, false, false, false, false] rfl rfl (take_ofW HT_.out HW_.out (by kernel_rfl)) (fun _ _ _ h => h) (Or.inl ⟨by rfl, ?_⟩) hHeld ?_ ?_
           rotate_left
           · rintro w' ⟨s0, s1, s2, s3, s4, s5, s6, s7, s8, s9⟩
             go_simp
             with_reducible rfl
           rotate_left
           · simp only [Act.put, List.setIfInBounds_toArray, List.set_cons_zero, List.set_cons_succ, i64_w, i32_w]
             rfl
           refine take_ (i := 33) (N := some 386) (v := ?_) (a' := ?_) #[true, true, true, true, true, true, true, true, true, true, true, true, true, true, true, true, true, true, true, true, true, true, true, true, true, true, true, true, true, true, true, true, false, true, false, false, false, false, false, false, false, false, false, false, false] rfl rfl (take_ofW HT_.out HW_.out (by kernel_rfl)) (fun _ _ _ h => h) (Or.inl ⟨by rfl, ?_⟩) hHeld ?_ ?_
           rotate_left
           · rintro w' ⟨s0, s1, s2, s3, s4, s5, s6, s7, s8, s9⟩
             go_simp
             with_reducible rfl
           rotate_left
           · simp only [Act.put, List.setIfInBounds_toArray, List.set_cons_zero, List.set_cons_succ, i64_w, i32_w]
             rfl
           refine one_ (i := 32) (N := some 385) #[true, true, true, true, true, true, true, true, true, true, true, true, true, true, true, true, true, true, true, true, true, true, true, true, true, true, true, true, true, true, true, true, true, true, false, false, false, false, false, false, false, false, false, false, false] rfl rfl (one_of HT_.out (by kernel_rfl)) (by decide) (fun K hK => ?_)
           refine goes_ Tryz.func31 (by kernel_rfl) rfl #[.agg #[.int .i64 t708, .int .i64 t709, .int .i64 t710]] (by rfl) rfl rfl z18_1_ ?_
           with_reducible refine (impl_IsClue.calls kj110 t708 t709 t710 t719 _ A241.out).mono ?_
           rintro e w256 ⟨rfl, hb⟩
           refine ⟨_, rfl, ?_⟩
           replace HO668 := Aside0.mk (Kd.R_below z18_9_ hb)
           replace HO676 := Aside0.mk (Kd.R_below z18_10_ hb)
           replace HO681 := Aside0.mk (Kd.R_below z18_12_ hb)
           replace HO686 := Aside0.mk (Kd.R_below z18_13_ hb)
           replace HO691 := Aside0.mk (Kd.R_below z18_14_ hb)
           replace HO696 := Aside0.mk (Kd.R_below z18_15_ hb)
           replace BK672 := bb_ BK672 z18_2_ hb
           replace BK673 := bb_ BK673 z18_3_ hb
           replace BK678 := bb_ BK678 z18_6_ hb
           replace BK683 := bb_ BK683 z18_7_ hb
           replace BK688 := bb_ BK688 z18_4_ hb
           replace BK693 := bb_ BK693 z18_5_ hb
           replace BK698 := bb_ BK698 z18_8_ hb
           replace BK703 := bb_ BK703 z18_11_ hb
           replace BK711 := bb_ BK711 z18_16_ hb
           replace HB := Aside0.mk (below_step z18_0_ hb)
           
           
           
           
           refine hK.out _ _ ⟨(blk_cell BK678.out 0).trans rfl, (blk_cell BK683.out 0).trans rfl, (blk_cell BK693.out 0).trans rfl, (blk_cell BK698.out 0).trans rfl, (blk_cell BK711.out 0).trans rfl, (blk_cell BK711.out 1).trans rfl, (blk_cell BK711.out 2).trans rfl, (blk_cell BK703.out 0).trans rfl, (blk_cell BK703.out 1).trans rfl, (blk_cell BK703.out 2).trans rfl⟩ (fun hHeld => ?_)
           clear hK K
           refine norm_ (a' := ?_) ?_ ?_
           rotate_left
           · show Act.put _ (some 385) _ = _
             simp only [Act.put, List.setIfInBounds_toArray, List.set_cons_zero, List.set_cons_succ, i64_w, i32_w]
             rfl
           refine one_ (i := 34) (N := some 387) #[true, true, true, true, true, true, true, true, true, true, true, true, true, true, true, true, true, true, true, true, true, true, true, true, true, true, true, true, true, true, true, true, true, true, true, false, false, false, false, false, false, false, false, false, false] rfl rfl (one_of HT_.out (by kernel_rfl)) (by decide) (fun K hK => ?_)
           refine goes_ Tryz.func32 (by kernel_rfl) rfl #[.agg #[.int .i64 t708, .int .i64 t709, .int .i64 t710]] (by rfl) rfl rfl z18_1_ ?_
           with_reducible refine (spec_IsClue.calls t708 t709 t710 t720 _ A242.out).mono ?_
           rintro e w257 ⟨rfl, hb⟩
           refine ⟨_, rfl, ?_⟩
           replace HO668 := Aside0.mk (Kd.R_below z18_9_ hb)
           replace HO676 := Aside0.mk (Kd.R_below z18_10_ hb)
           replace HO681 := Aside0.mk (Kd.R_below z18_12_ hb)
           replace HO686 := Aside0.mk (Kd.R_below z18_13_ hb)
           replace HO691 := Aside0.mk (Kd.R_below z18_14_ hb)
           replace HO696 := Aside0.mk (Kd.R_below z18_15_ hb)
           replace BK672 := bb_ BK672 z18_2_ hb
           replace BK673 := bb_ BK673 z18_3_ hb
           replace BK678 := bb_ BK678 z18_6_ hb
           replace BK683 := bb_ BK683 z18_7_ hb
           replace BK688 := bb_ BK688 z18_4_ hb
           replace BK693 := bb_ BK693 z18_5_ hb
           replace BK698 := bb_ BK698 z18_8_ hb
           replace BK703 := bb_ BK703 z18_11_ hb
           replace BK711 := bb_ BK711 z18_16_ hb
           replace HB := Aside0.mk (below_step z18_0_ hb)
           
           
           
           
           refine hK.out _ _ ⟨(blk_cell BK678.out 0).trans rfl, (blk_cell BK683.out 0).trans rfl, (blk_cell BK693.out 0).trans rfl, (blk_cell BK698.out 0).trans rfl, (blk_cell BK711.out 0).trans rfl, (blk_cell BK711.out 1).trans rfl, (blk_cell BK711.out 2).trans rfl, (blk_cell BK703.out 0).trans rfl, (blk_cell BK703.out 1).trans rfl, (blk_cell BK703.out 2).trans rfl⟩ (fun hHeld => ?_)
           clear hK K
           refine norm_ (a' := ?_) ?_ ?_
           rotate_left
           · show Act.put _ (some 387) _ = _
             simp only [Act.put, List.setIfInBounds_toArray, List.set_cons_zero, List.set_cons_succ, i64_w, i32_w]
             rfl
           refine pq_ 35 388 ?_
           refine pq_ 36 389 ?_
           refine pq_ 37 390 ?_
           refine pq_ 38 391 ?_
           refine pq_ 39 392 ?_
           refine take_ (i := 40) (N := some 393) (v := ?_) (a' := ?_) #[true, true, true, true, true, true, true, true, true, true, true, true, true, true, true, true, true, true, true, true, true, true, true, true, true, true, true, true, true, true, true, true, true, true, true, true, true, true, true, true, true, false, false, false, false] rfl rfl (take_ofW HT_.out HW_.out (by kernel_rfl)) (fun _ _ _ h => h) (Or.inl ⟨by rfl, ?_⟩) hHeld ?_ ?_
           rotate_left
           · rintro w' ⟨s0, s1, s2, s3, s4, s5, s6, s7, s8, s9⟩
             go_simp
             with_reducible rfl
           rotate_left
           · simp only [Act.put, List.setIfInBounds_toArray, List.set_cons_zero, List.set_cons_succ, i64_w, i32_w]
             rfl
           refine one_ (i := 41) (N := some 394) #[true, true, true, true, true, true, true, true, true, true, true, true, true, true, true, true, true, true, true, true, true, true, true, true, true, true, true, true, true, true, true, true, true, true, true, true, true, true, true, true, true, true, false, false, false] rfl rfl (one_of HT_.out (by kernel_rfl)) (by decide) (fun K hK => ?_)
           refine goes_ Tryz.func31 (by kernel_rfl) rfl #[.agg #[.int .i64 t699, .int .i64 t700, .int .i64 t701]] (by rfl) rfl rfl z18_1_ ?_
           with_reducible refine (impl_IsClue.calls kj110 t699 t700 t701 t721 _ A251.out).mono ?_
           rintro e w258 ⟨rfl, hb⟩
           refine ⟨_, rfl, ?_⟩
           replace HO668 := Aside0.mk (Kd.R_below z18_9_ hb)
           replace HO676 := Aside0.mk (Kd.R_below z18_10_ hb)
           replace HO681 := Aside0.mk (Kd.R_below z18_12_ hb)
           replace HO686 := Aside0.mk (Kd.R_below z18_13_ hb)
           replace HO691 := Aside0.mk (Kd.R_below z18_14_ hb)
           replace HO696 := Aside0.mk (Kd.R_below z18_15_ hb)
           replace BK672 := bb_ BK672 z18_2_ hb
           replace BK673 := bb_ BK673 z18_3_ hb
           replace BK678 := bb_ BK678 z18_6_ hb
           replace BK683 := bb_ BK683 z18_7_ hb
           replace BK688 := bb_ BK688 z18_4_ hb
           replace BK693 := bb_ BK693 z18_5_ hb
           replace BK698 := bb_ BK698 z18_8_ hb
           replace BK703 := bb_ BK703 z18_11_ hb
           replace BK711 := bb_ BK711 z18_16_ hb
           replace HB := Aside0.mk (below_step z18_0_ hb)
           
           
           
           
           refine hK.out _ _ ⟨(blk_cell BK678.out 0).trans rfl, (blk_cell BK683.out 0).trans rfl, (blk_cell BK693.out 0).trans rfl, (blk_cell BK698.out 0).trans rfl, (blk_cell BK711.out 0).trans rfl, (blk_cell BK711.out 1).trans rfl, (blk_cell BK711.out 2).trans rfl, (blk_cell BK703.out 0).trans rfl, (blk_cell BK703.out 1).trans rfl, (blk_cell BK703.out 2).trans rfl⟩ (fun hHeld => ?_)
           clear hK K
           refine norm_ (a' := ?_) ?_ ?_
           rotate_left
           · show Act.put _ (some 394) _ = _
             simp only [Act.put, List.setIfInBounds_toArray, List.set_cons_zero, List.set_cons_succ, i64_w, i32_w]
             rfl
           refine pq_ 42 395 ?_
           refine pq_ 43 396 ?_
           refine pq_ 44 397 ?_
           refine done_ (done_of HT_.out (by kernel_rfl)) ?_
           try go_wp2
           try any_goals (exfalso; exact undef_bool_ (by with_reducible assumption))
           go_meet
           case rel => exact ⟨_, (!t721), zV_, H', ⟨by have := HJ10.out; have := HJ68.out; have := HJ110.out; first | omega | exact Nat.le_refl _⟩, ⟨by refine rr_ ?_; exact Kd.R_mono HO668.out (fun _ hk => ⟨hk.1, ⟨hk.2.2.1, ⟨hk.2.2.2.1, hk.2.2.2.2.2.1⟩⟩⟩)⟩, ⟨by refine rr_ ?_; exact Kd.R_mono HO676.out (fun _ hk => ⟨hk.1, ⟨hk.2.2.1, ⟨hk.2.2.2.1, hk.2.2.2.2.2.1⟩⟩⟩)⟩, ⟨by refine rr_ ?_; exact Kd.R_mono HO686.out (fun _ hk => ⟨hk.1, ⟨hk.2.1, ⟨hk.2.2.2.1, hk.2.2.2.2.2.1⟩⟩⟩)⟩, ⟨by refine rr_ ?_; exact Kd.R_mono HO691.out (fun _ hk => ⟨hk.1, ⟨hk.2.1, ⟨hk.2.2.2.1, hk.2.2.2.2.2.1⟩⟩⟩)⟩, ⟨b_ BK672.out⟩, ⟨b_ BK673.out⟩, ⟨b_ BK678.out⟩, ⟨b_ BK688.out⟩, ⟨b_ BK693.out⟩, ⟨by repeat (first | (with_reducible first | exact HB.out | apply below_alloc | apply pw_below_drewN | apply below_drew1 | refine below_set ?_ GE672.out | refine below_set ?_ GE673.out | refine below_set ?_ GE678.out | refine below_set ?_ GE683.out | refine below_set ?_ GE688.out | refine below_set ?_ GE693.out | refine below_set ?_ GE698.out | refine below_set ?_ GE703.out | refine below_set ?_ GE711.out) | exact HB.out)⟩⟩
        replace H := bf_ c250 H; obtain ⟨rfl, H⟩ := H
        as_aux_lemma =>
         have H' := Aside0.mk H
         clear H
         try go_wp2
         have n0_ : Aside0 (Kd.R k37 37 (((w210.setCell ⟨gb711, 0, none⟩ (.int .i64 t708)).setCell ⟨gb711, 1, none⟩ (.int .i64 t709)).setCell ⟨gb711, 2, none⟩ (.int .i64 t710)) w.heap.size (fun k_ => some k_ ≠ (.slice Ao155 t674.length co155 : Value).ownBlock ∧ some k_ ≠ (.slice Ao163 t679.length co163 : Value).ownBlock ∧ some k_ ≠ (.slice Ao170 t684.length co170 : Value).ownBlock ∧ some k_ ≠ (.slice Ao178 t689.length co178 : Value).ownBlock ∧ some k_ ≠ (.slice Ao188 t694.length co188 : Value).ownBlock ∧ k_ ≠ gb673 ∧ k_ ≠ gb703 ∧ k_ ≠ gb711) (.slice Ao149 t666.length co149) t666) := ⟨by refine rr_ ?_; exact Kd.R_mono (Kd.R_far (p := ⟨gb711, 2, none⟩) (Kd.R_far (p := ⟨gb711, 1, none⟩) (Kd.R_far (p := ⟨gb711, 0, none⟩) (Kd.R_mono HO668.out (fun k_ hk => (⟨hk, hk.2⟩ : _ ∧ k_ ≠ gb711))) (fun _ hk => hk.2) (.int .i64 t708)) (fun _ hk => hk.2) (.int .i64 t709)) (fun _ hk => hk.2) (.int .i64 t710)) (fun _ hk => ⟨hk.1.1.1.1.1.1.1.2, ⟨hk.1.1.1.1.1.1.2, ⟨hk.1.1.1.1.1.2, ⟨hk.1.1.1.1.2, ⟨hk.1.1.1.2, ⟨hk.1.1.1.1.1.1.1.1.2, ⟨hk.1.1.2, hk.1.2⟩⟩⟩⟩⟩⟩⟩)⟩
         have n1_ : Aside0 (Kd.R k37 37 (((w210.setCell ⟨gb711, 0, none⟩ (.int .i64 t708)).setCell ⟨gb711, 1, none⟩ (.int .i64 t709)).setCell ⟨gb711, 2, none⟩ (.int .i64 t710)) w.heap.size (fun k_ => some k_ ≠ (.slice Ao149 t666.length co149 : Value).ownBlock ∧ some k_ ≠ (.slice Ao163 t679.length co163 : Value).ownBlock ∧ some k_ ≠ (.slice Ao170 t684.length co170 : Value).ownBlock ∧ some k_ ≠ (.slice Ao178 t689.length co178 : Value).ownBlock ∧ some k_ ≠ (.slice Ao188 t694.length co188 : Value).ownBlock ∧ k_ ≠ gb673 ∧ k_ ≠ gb703 ∧ k_ ≠ gb711) (.slice Ao155 t674.length co155) t674) := ⟨by refine rr_ ?_; exact Kd.R_mono (Kd.R_far (p := ⟨gb711, 2, none⟩) (Kd.R_far (p := ⟨gb711, 1, none⟩) (Kd.R_far (p := ⟨gb711, 0, none⟩) (Kd.R_mono HO676.out (fun k_ hk => (⟨hk, hk.2⟩ : _ ∧ k_ ≠ gb711))) (fun _ hk => hk.2) (.int .i64 t708)) (fun _ hk => hk.2) (.int .i64 t709)) (fun _ hk => hk.2) (.int .i64 t710)) (fun _ hk => ⟨hk.1.1.1.1.1.1.1.1.2, ⟨hk.1.1.1.1.1.1.2, ⟨hk.1.1.1.1.1.2, ⟨hk.1.1.1.1.2, ⟨hk.1.1.1.2, ⟨hk.1.1.1.1.1.1.1.2, ⟨hk.1.1.2, hk.1.2⟩⟩⟩⟩⟩⟩⟩)⟩
         have n2_ : Aside0 (Kd.R k37 37 (((w210.setCell ⟨gb711, 0, none⟩ (.int .i64 t708)).setCell ⟨gb711, 1, none⟩ (.int .i64 t709)).setCell ⟨gb711, 2, none⟩ (.int .i64 t710)) w.heap.size (fun k_ => some k_ ≠ (.slice Ao149 t666.length co149 : Value).ownBlock ∧ some k_ ≠ (.slice Ao155 t674.length co155 : Value).ownBlock ∧ some k_ ≠ (.slice Ao170 t684.length co170 : Value).ownBlock ∧ some k_ ≠ (.slice Ao178 t689.length co178 : Value).ownBlock ∧ some k_ ≠ (.slice Ao188 t694.length co188 : Value).ownBlock ∧ k_ ≠ gb673 ∧ k_ ≠ gb703 ∧ k_ ≠ gb711) (.slice Ao163 t679.length co163) t679) := ⟨by refine rr_ ?_; exact Kd.R_mono (Kd.R_far (p := ⟨gb711, 2, none⟩) (Kd.R_far (p := ⟨gb711, 1, none⟩) (Kd.R_far (p := ⟨gb711, 0, none⟩) (Kd.R_mono HO681.out (fun k_ hk => (⟨hk, hk.2⟩ : _ ∧ k_ ≠ gb711))) (fun _ hk => hk.2) (.int .i64 t708)) (fun _ hk => hk.2) (.int .i64 t709)) (fun _ hk => hk.2) (.int .i64 t710)) (fun _ hk => ⟨hk.1.1.1.1.1.1.1.1.2, ⟨hk.1.1.1.1.1.1.1.2, ⟨hk.1.1.1.1.1.2, ⟨hk.1.1.1.1.2, ⟨hk.1.1.1.2, ⟨hk.1.1.1.1.1.1.2, ⟨hk.1.1.2, hk.1.2⟩⟩⟩⟩⟩⟩⟩)⟩
         have n3_ : Aside0 (Kd.R k37 37 (((w210.setCell ⟨gb711, 0, none⟩ (.int .i64 t708)).setCell ⟨gb711, 1, none⟩ (.int .i64 t709)).setCell ⟨gb711, 2, none⟩ (.int .i64 t710)) w.heap.size (fun k_ => some k_ ≠ (.slice Ao149 t666.length co149 : Value).ownBlock ∧ some k_ ≠ (.slice Ao155 t674.length co155 : Value).ownBlock ∧ some k_ ≠ (.slice Ao163 t679.length co163 : Value).ownBlock ∧ some k_ ≠ (.slice Ao178 t689.length co178 : Value).ownBlock ∧ some k_ ≠ (.slice Ao188 t694.length co188 : Value).ownBlock ∧ k_ ≠ gb673 ∧ k_ ≠ gb703 ∧ k_ ≠ gb711) (.slice Ao170 t684.length co170) t684) := ⟨by refine rr_ ?_; exact Kd.R_mono (Kd.R_far (p := ⟨gb711, 2, none⟩) (Kd.R_far (p := ⟨gb711, 1, none⟩) (Kd.R_far (p := ⟨gb711, 0, none⟩) (Kd.R_mono HO686.out (fun k_ hk => (⟨hk, hk.2⟩ : _ ∧ k_ ≠ gb711))) (fun _ hk => hk.2) (.int .i64 t708)) (fun _ hk => hk.2) (.int .i64 t709)) (fun _ hk => hk.2) (.int .i64 t710)) (fun _ hk => ⟨hk.1.1.1.1.1.1.1.1.2, ⟨hk.1.1.1.1.1.1.1.2, ⟨hk.1.1.1.1.1.1.2, ⟨hk.1.1.1.1.2, ⟨hk.1.1.1.2, ⟨hk.1.1.1.1.1.2, ⟨hk.1.1.2, hk.1.2⟩⟩⟩⟩⟩⟩⟩)⟩
         have n4_ : Aside0 (Kd.R k37 37 (((w210.setCell ⟨gb711, 0, none⟩ (.int .i64 t708)).setCell ⟨gb711, 1, none⟩ (.int .i64 t709)).setCell ⟨gb711, 2, none⟩ (.int .i64 t710)) w.heap.size (fun k_ => some k_ ≠ (.slice Ao149 t666.length co149 : Value).ownBlock ∧ some k_ ≠ (.slice Ao155 t674.length co155 : Value).ownBlock ∧ some k_ ≠ (.slice Ao163 t679.length co163 : Value).ownBlock ∧ some k_ ≠ (.slice Ao170 t684.length co170 : Value).ownBlock ∧ some k_ ≠ (.slice Ao188 t694.length co188 : Value).ownBlock ∧ k_ ≠ gb673 ∧ k_ ≠ gb703 ∧ k_ ≠ gb711) (.slice Ao178 t689.length co178) t689) := ⟨by refine rr_ ?_; exact Kd.R_mono (Kd.R_far (p := ⟨gb711, 2, none⟩) (Kd.R_far (p := ⟨gb711, 1, none⟩) (Kd.R_far (p := ⟨gb711, 0, none⟩) (Kd.R_mono HO691.out (fun k_ hk => (⟨hk, hk.2⟩ : _ ∧ k_ ≠ gb711))) (fun _ hk => hk.2) (.int .i64 t708)) (fun _ hk => hk.2) (.int .i64 t709)) (fun _ hk => hk.2) (.int .i64 t710)) (fun _ hk => ⟨hk.1.1.1.1.1.1.1.1.2, ⟨hk.1.1.1.1.1.1.1.2, ⟨hk.1.1.1.1.1.1.2, ⟨hk.1.1.1.1.1.2, ⟨hk.1.1.1.2, ⟨hk.1.1.1.1.2, ⟨hk.1.1.2, hk.1.2⟩⟩⟩⟩⟩⟩⟩)⟩
         have n5_ : Aside0 (Kd.R k37 37 (((w210.setCell ⟨gb711, 0, none⟩ (.int .i64 t708)).setCell ⟨gb711, 1, none⟩ (.int .i64 t709)).setCell ⟨gb711, 2, none⟩ (.int .i64 t710)) w.heap.size (fun k_ => some k_ ≠ (.slice Ao149 t666.length co149 : Value).ownBlock ∧ some k_ ≠ (.slice Ao155 t674.length co155 : Value).ownBlock ∧ some k_ ≠ (.slice Ao163 t679.length co163 : Value).ownBlock ∧ some k_ ≠ (.slice Ao170 t684.length co170 : Value).ownBlock ∧ some k_ ≠ (.slice Ao178 t689.length co178 : Value).ownBlock ∧ k_ ≠ gb673 ∧ k_ ≠ gb703 ∧ k_ ≠ gb711) (.slice Ao188 t694.length co188) t694) := ⟨by refine rr_ ?_; exact Kd.R_mono (Kd.R_far (p := ⟨gb711, 2, none⟩) (Kd.R_far (p := ⟨gb711, 1, none⟩) (Kd.R_far (p := ⟨gb711, 0, none⟩) (Kd.R_mono HO696.out (fun k_ hk => (⟨hk, hk.2⟩ : _ ∧ k_ ≠ gb711))) (fun _ hk => hk.2) (.int .i64 t708)) (fun _ hk => hk.2) (.int .i64 t709)) (fun _ hk => hk.2) (.int .i64 t710)) (fun _ hk => ⟨hk.1.1.1.1.1.1.1.1.2, ⟨hk.1.1.1.1.1.1.1.2, ⟨hk.1.1.1.1.1.1.2, ⟨hk.1.1.1.1.1.2, ⟨hk.1.1.1.1.2, ⟨hk.1.1.1.2, ⟨hk.1.1.2, hk.1.2⟩⟩⟩⟩⟩⟩⟩)⟩
         have n6_ : Aside0 ((((w210.setCell ⟨gb711, 0, none⟩ (.int .i64 t708)).setCell ⟨gb711, 1, none⟩ (.int .i64 t709)).setCell ⟨gb711, 2, none⟩ (.int .i64 t710)).heap[gb672]? = some (.cells #[.slice Ao149 t666.length co149] 28 (0, 0))) := ⟨by refine b_ ?_; refine blk_far ?_ NB672_711.out _; refine b_ ?_; refine blk_far ?_ NB672_711.out _; refine b_ ?_; refine blk_far ?_ NB672_711.out _; exact b_ BK672.out⟩
         have n7_ : Aside0 ((((w210.setCell ⟨gb711, 0, none⟩ (.int .i64 t708)).setCell ⟨gb711, 1, none⟩ (.int .i64 t709)).setCell ⟨gb711, 2, none⟩ (.int .i64 t710)).heap[gb673]? = some (.cells #[.int .i64 t669, .int .i64 t670, .int .i64 t671] 37 (0, 0))) := ⟨by refine b_ ?_; refine blk_far ?_ NB673_711.out _; refine b_ ?_; refine blk_far ?_ NB673_711.out _; refine b_ ?_; refine blk_far ?_ NB673_711.out _; exact b_ BK673.out⟩
         have n8_ : Aside0 ((((w210.setCell ⟨gb711, 0, none⟩ (.int .i64 t708)).setCell ⟨gb711, 1, none⟩ (.int .i64 t709)).setCell ⟨gb711, 2, none⟩ (.int .i64 t710)).heap[gb678]? = some (.cells #[.slice Ao155 t674.length co155] 28 (0, 0))) := ⟨by refine b_ ?_; refine blk_far ?_ NB678_711.out _; refine b_ ?_; refine blk_far ?_ NB678_711.out _; refine b_ ?_; refine blk_far ?_ NB678_711.out _; exact b_ BK678.out⟩
         have n9_ : Aside0 ((((w210.setCell ⟨gb711, 0, none⟩ (.int .i64 t708)).setCell ⟨gb711, 1, none⟩ (.int .i64 t709)).setCell ⟨gb711, 2, none⟩ (.int .i64 t710)).heap[gb683]? = some (.cells #[.slice Ao163 t679.length co163] 28 (0, 0))) := ⟨by refine b_ ?_; refine blk_far ?_ NB683_711.out _; refine b_ ?_; refine blk_far ?_ NB683_711.out _; refine b_ ?_; refine blk_far ?_ NB683_711.out _; exact b_ BK683.out⟩
         have n10_ : Aside0 ((((w210.setCell ⟨gb711, 0, none⟩ (.int .i64 t708)).setCell ⟨gb711, 1, none⟩ (.int .i64 t709)).setCell ⟨gb711, 2, none⟩ (.int .i64 t710)).heap[gb688]? = some (.cells #[.slice Ao170 t684.length co170] 28 (0, 0))) := ⟨by refine b_ ?_; refine blk_far ?_ NB688_711.out _; refine b_ ?_; refine blk_far ?_ NB688_711.out _; refine b_ ?_; refine blk_far ?_ NB688_711.out _; exact b_ BK688.out⟩
         have n11_ : Aside0 ((((w210.setCell ⟨gb711, 0, none⟩ (.int .i64 t708)).setCell ⟨gb711, 1, none⟩ (.int .i64 t709)).setCell ⟨gb711, 2, none⟩ (.int .i64 t710)).heap[gb693]? = some (.cells #[.slice Ao178 t689.length co178] 28 (0, 0))) := ⟨by refine b_ ?_; refine blk_far ?_ NB693_711.out _; refine b_ ?_; refine blk_far ?_ NB693_711.out _; refine b_ ?_; refine blk_far ?_ NB693_711.out _; exact b_ BK693.out⟩
         have n12_ : Aside0 ((((w210.setCell ⟨gb711, 0, none⟩ (.int .i64 t708)).setCell ⟨gb711, 1, none⟩ (.int .i64 t709)).setCell ⟨gb711, 2, none⟩ (.int .i64 t710)).heap[gb698]? = some (.cells #[.slice Ao188 t694.length co188] 28 (0, 0))) := ⟨by refine b_ ?_; refine blk_far ?_ NB698_711.out _; refine b_ ?_; refine blk_far ?_ NB698_711.out _; refine b_ ?_; refine blk_far ?_ NB698_711.out _; exact b_ BK698.out⟩
         have n13_ : Aside0 ((((w210.setCell ⟨gb711, 0, none⟩ (.int .i64 t708)).setCell ⟨gb711, 1, none⟩ (.int .i64 t709)).setCell ⟨gb711, 2, none⟩ (.int .i64 t710)).heap[gb703]? = some (.cells #[.int .i64 t699, .int .i64 t700, .int .i64 t701] 37 (0, 0))) := ⟨by refine b_ ?_; refine blk_far ?_ NB703_711.out _; refine b_ ?_; refine blk_far ?_ NB703_711.out _; refine b_ ?_; refine blk_far ?_ NB703_711.out _; exact b_ BK703.out⟩
         have n14_ : Aside0 ((((w210.setCell ⟨gb711, 0, none⟩ (.int .i64 t708)).setCell ⟨gb711, 1, none⟩ (.int .i64 t709)).setCell ⟨gb711, 2, none⟩ (.int .i64 t710)).heap[gb711]? = some (.cells #[.int .i64 t708, .int .i64 t709, .int .i64 t710] 37 (0, 0))) := ⟨by refine b_ ?_; refine blk_put (cs := #[.int .i64 t708, .int .i64 t709, .int .i64 0]) ?_ 2 _ rfl; refine b_ ?_; refine blk_put (cs := #[.int .i64 t708, .int .i64 0, .int .i64 0]) ?_ 1 _ rfl; refine b_ ?_; refine blk_put (cs := #[.int .i64 0, .int .i64 0, .int .i64 0]) ?_ 0 _ rfl; exact b_ BK711.out⟩
         have n15_ : Aside0 (Below w.heap.size w (((w210.setCell ⟨gb711, 0, none⟩ (.int .i64 t708)).setCell ⟨gb711, 1, none⟩ (.int .i64 t709)).setCell ⟨gb711, 2, none⟩ (.int .i64 t710))) := ⟨by repeat (first | (with_reducible first | exact HB.out | apply below_alloc | apply pw_below_drewN | apply below_drew1 | refine below_set ?_ GE672.out | refine below_set ?_ GE673.out | refine below_set ?_ GE678.out | refine below_set ?_ GE683.out | refine below_set ?_ GE688.out | refine below_set ?_ GE693.out | refine below_set ?_ GE698.out | refine below_set ?_ GE703.out | refine below_set ?_ GE711.out) | exact HB.out)⟩
         generalize (((w210.setCell ⟨gb711, 0, none⟩ (.int .i64 t708)).setCell ⟨gb711, 1, none⟩ (.int .i64 t709)).setCell ⟨gb711, 2, none⟩ (.int .i64 t710)) = w259 at n0_ n1_ n2_ n3_ n4_ n5_ n6_ n7_ n8_ n9_ n10_ n11_ n12_ n13_ n14_ n15_ ⊢
         have HO668 := n0_
         have HO676 := n1_
         have HO681 := n2_
         have HO686 := n3_
         have HO691 := n4_
         have HO696 := n5_
         have BK672 := n6_
         have BK673 := n7_
         have BK678 := n8_
         have BK683 := n9_
         have BK688 := n10_
         have BK693 := n11_
         have BK698 := n12_
         have BK703 := n13_
         have BK711 := n14_
         have HB := n15_
         clear n0_ n1_ n2_ n3_ n4_ n5_ n6_ n7_ n8_ n9_ n10_ n11_ n12_ n13_ n14_ n15_
         replace HO668 := Aside0.mk (Kd.R_drew HO668.out)
         replace HO676 := Aside0.mk (Kd.R_drew HO676.out)
         replace HO681 := Aside0.mk (Kd.R_drew HO681.out)
         replace HO686 := Aside0.mk (Kd.R_drew HO686.out)
         replace HO691 := Aside0.mk (Kd.R_drew HO691.out)
         replace HO696 := Aside0.mk (Kd.R_drew HO696.out)
         replace BK672 := Aside0.mk (blk_drew BK672.out)
         replace BK673 := Aside0.mk (blk_drew BK673.out)
         replace BK678 := Aside0.mk (blk_drew BK678.out)
         replace BK683 := Aside0.mk (blk_drew BK683.out)
         replace BK688 := Aside0.mk (blk_drew BK688.out)
         replace BK693 := Aside0.mk (blk_drew BK693.out)
         replace BK698 := Aside0.mk (blk_drew BK698.out)
         replace BK703 := Aside0.mk (blk_drew BK703.out)
         replace BK711 := Aside0.mk (blk_drew BK711.out)
         replace HB := Aside0.mk (below_drew1 HB.out)
         refine start_ (n := 45) (S := fun w' => w'.cell? ⟨gb678, 0, none⟩ = some (.slice Ao155 t674.length co155) ∧ w'.cell? ⟨gb683, 0, none⟩ = some (.slice Ao163 t679.length co163) ∧ w'.cell? ⟨gb693, 0, none⟩ = some (.slice Ao178 t689.length co178) ∧ w'.cell? ⟨gb698, 0, none⟩ = some (.slice Ao188 t694.length co188) ∧ w'.cell? ⟨gb711, 0, none⟩ = some (.int .i64 t708) ∧ w'.cell? ⟨gb711, 1, none⟩ = some (.int .i64 t709) ∧ w'.cell? ⟨gb711, 2, none⟩ = some (.int .i64 t710)) (ds := []) #[false, false, false, false, false, false, false, false, false, false, false, false, false, false, false, false, false, false, false, false, false, false, false, false, false, false, false, false, false, false, false, false, false, false, false, false, false, false, false, false, false, false, false, false, false] (by kernel_rfl) rfl rfl ⟨(blk_cell BK678.out 0).trans rfl, (blk_cell BK683.out 0).trans rfl, (blk_cell BK693.out 0).trans rfl, (blk_cell BK698.out 0).trans rfl, (blk_cell BK711.out 0).trans rfl, (blk_cell BK711.out 1).trans rfl, (blk_cell BK711.out 2).trans rfl⟩ (fun hHeld => ?_); refine with_tabW laws_FnTicketsHidden.tab47 laws_FnTicketsHidden.bits47 (fun HT_ HW_ => ?_)
         generalize w259.drew = w260 at HO668 HO676 HO681 HO686 HO691 HO696 BK672 BK673 BK678 BK683 BK688 BK693 BK698 BK703 BK711 HB hHeld ⊢
         refine pq_ 0 353 ?_
         refine pq_ 1 354 ?_
         refine pq_ 2 355 ?_
         refine pq_ 3 356 ?_
         refine take_ (i := 4) (N := some 357) (v := ?_) (a' := ?_) #[true, true, true, true, true, false, false, false, false, false, false, false, false, false, false, false, false, false, false, false, false, false, false, false, false, false, false, false, false, false, false, false, false, false, false, false, false, false, false, false, false, false, false, false, false] rfl rfl (take_ofW HT_.out HW_.out (by kernel_rfl)) (fun _ _ _ h => h) (Or.inl ⟨by rfl, ?_⟩) hHeld ?_ ?_
         rotate_left
         · rintro w' ⟨s0, s1, s2, s3, s4, s5, s6⟩
           go_simp
           with_reducible rfl
         rotate_left
         · simp only [Act.put, List.setIfInBounds_toArray, List.set_cons_zero, List.set_cons_succ, i64_w, i32_w]
           rfl
         refine take_ (i := 5) (N := some 358) (v := ?_) (a' := ?_) #[true, true, true, true, true, true, false, false, false, false, false, false, false, false, false, false, false, false, false, false, false, false, false, false, false, false, false, false, false, false, false, false, false, false, false, false, false, false, false, false, false, false, false, false, false] rfl rfl (take_ofW HT_.out HW_.out (by kernel_rfl)) (fun _ _ _ h => h) (Or.inl ⟨by rfl, ?_⟩) hHeld ?_ ?_
         rotate_left
         · rintro w' ⟨s0, s1, s2, s3, s4, s5, s6⟩
           go_simp
           with_reducible rfl
         rotate_left
         · simp only [Act.put, List.setIfInBounds_toArray, List.set_cons_zero, List.set_cons_succ, i64_w, i32_w]
           rfl
         refine one_ (i := 6) (N := some 359) #[true, true, true, true, true, true, true, false, false, false, false, false, false, false, false, false, false, false, false, false, false, false, false, false, false, false, false, false, false, false, false, false, false, false, false, false, false, false, false, false, false, false, false, false, false] rfl rfl (one_of HT_.out (by kernel_rfl)) (by decide) (fun K hK => ?_)
         refine goes_ Tryz.func9 (by kernel_rfl) rfl #[.agg #[.slice Ao155 t674.length co155], .agg #[.slice Ao163 t679.length co163]] (by rfl) rfl rfl z18_1_ ?_
         with_reducible refine (laws_iPuzzle.calls kj110 _ _ t674 _ _ t679 true _ ?side1 ?side2 ?side3 ?side4 A223.out).mono ?_
         (case side1 => exact zc18_5_)
         (case side2 => exact (Kd.R_reads' HO676.out).2.1)
         (case side3 => exact zc18_6_)
         (case side4 => exact (Kd.R_reads' HO681.out).2.1)
         rintro e w261 ⟨rfl, hb⟩
         refine ⟨_, rfl, ?_⟩
         replace HO668 := Aside0.mk (Kd.R_below z18_9_ hb)
         replace HO676 := Aside0.mk (Kd.R_below z18_10_ hb)
         replace HO681 := Aside0.mk (Kd.R_below z18_12_ hb)
         replace HO686 := Aside0.mk (Kd.R_below z18_13_ hb)
         replace HO691 := Aside0.mk (Kd.R_below z18_14_ hb)
         replace HO696 := Aside0.mk (Kd.R_below z18_15_ hb)
         replace BK672 := bb_ BK672 z18_2_ hb
         replace BK673 := bb_ BK673 z18_3_ hb
         replace BK678 := bb_ BK678 z18_6_ hb
         replace BK683 := bb_ BK683 z18_7_ hb
         replace BK688 := bb_ BK688 z18_4_ hb
         replace BK693 := bb_ BK693 z18_5_ hb
         replace BK698 := bb_ BK698 z18_8_ hb
         replace BK703 := bb_ BK703 z18_11_ hb
         replace BK711 := bb_ BK711 z18_16_ hb
         replace HB := Aside0.mk (below_step z18_0_ hb)
         
         
         
         
         refine hK.out _ _ ⟨(blk_cell BK678.out 0).trans rfl, (blk_cell BK683.out 0).trans rfl, (blk_cell BK693.out 0).trans rfl, (blk_cell BK698.out 0).trans rfl, (blk_cell BK711.out 0).trans rfl, (blk_cell BK711.out 1).trans rfl, (blk_cell BK711.out 2).trans rfl⟩ (fun hHeld => ?_)
         clear hK K
         refine norm_ (a' := ?_) ?_ ?_
         rotate_left
         · show Act.put _ (some 359) _ = _
           simp only [Act.put, List.setIfInBounds_toArray, List.set_cons_zero, List.set_cons_succ, i64_w, i32_w]
           rfl
         refine pq_ 7 360 ?_
         refine pq_ 8 361 ?_
         refine pq_ 9 362 ?_
         refine pq_ 10 363 ?_
         refine pq_ 11 364 ?_
         refine pq_ 12 365 ?_
         refine pq_ 13 366 ?_
         refine pq_ 14 367 ?_
         refine take_ (i := 15) (N := some 368) (v := ?_) (a' := ?_) #[true, true, true, true, true, true, true, true, true, true, true, true, true, true, true, true, false, false, false, false, false, false, false, false, false, false, false, false, false, false, false, false, false, false, false, false, false, false, false, false, false, false, false, false, false] rfl rfl (take_ofW HT_.out HW_.out (by kernel_rfl)) (fun _ _ _ h => h) (Or.inl ⟨by rfl, ?_⟩) hHeld ?_ ?_
         rotate_left
         · rintro w' ⟨s0, s1, s2, s3, s4, s5, s6⟩
           go_simp
           with_reducible rfl
         rotate_left
         · simp only [Act.put, List.setIfInBounds_toArray, List.set_cons_zero, List.set_cons_succ, i64_w, i32_w]
           rfl
         refine take_ (i := 16) (N := some 369) (v := ?_) (a' := ?_) #[true, true, true, true, true, true, true, true, true, true, true, true, true, true, true, true, true, false, false, false, false, false, false, false, false, false, false, false, false, false, false, false, false, false, false, false, false, false, false, false, false, false, false, false, false] rfl rfl (take_ofW HT_.out HW_.out (by kernel_rfl)) (fun _ _ _ h => h) (Or.inl ⟨by rfl, ?_⟩) hHeld ?_ ?_
         rotate_left
         · rintro w' ⟨s0, s1, s2, s3, s4, s5, s6⟩
           go_simp
           with_reducible rfl
         rotate_left
         · simp only [Act.put, List.setIfInBounds_toArray, List.set_cons_zero, List.set_cons_succ, i64_w, i32_w]
           rfl
         refine one_ (i := 17) (N := some 370) #[true, true, true, true, true, true, true, true, true, true, true, true, true, true, true, true, true, true, false, false, false, false, false, false, false, false, false, false, false, false, false, false, false, false, false, false, false, false, false, false, false, false, false, false, false] rfl rfl (one_of HT_.out (by kernel_rfl)) (by decide) (fun K hK => ?_)
         refine goes_ Tryz.func9 (by kernel_rfl) rfl #[.agg #[.slice Ao178 t689.length co178], .agg #[.slice Ao188 t694.length co188]] (by rfl) rfl rfl z18_1_ ?_
         with_reducible refine (laws_iPuzzle.calls kj110 _ _ t689 _ _ t694 true _ ?side1 ?side2 ?side3 ?side4 A229.out).mono ?_
         (case side1 => exact zc18_7_)
         (case side2 => exact (Kd.R_reads' HO691.out).2.1)
         (case side3 => exact zc18_8_)
         (case side4 => exact (Kd.R_reads' HO696.out).2.1)
         rintro e w262 ⟨rfl, hb⟩
         refine ⟨_, rfl, ?_⟩
         replace HO668 := Aside0.mk (Kd.R_below z18_9_ hb)
         replace HO676 := Aside0.mk (Kd.R_below z18_10_ hb)
         replace HO681 := Aside0.mk (Kd.R_below z18_12_ hb)
         replace HO686 := Aside0.mk (Kd.R_below z18_13_ hb)
         replace HO691 := Aside0.mk (Kd.R_below z18_14_ hb)
         replace HO696 := Aside0.mk (Kd.R_below z18_15_ hb)
         replace BK672 := bb_ BK672 z18_2_ hb
         replace BK673 := bb_ BK673 z18_3_ hb
         replace BK678 := bb_ BK678 z18_6_ hb
         replace BK683 := bb_ BK683 z18_7_ hb
         replace BK688 := bb_ BK688 z18_4_ hb
         replace BK693 := bb_ BK693 z18_5_ hb
         replace BK698 := bb_ BK698 z18_8_ hb
         replace BK703 := bb_ BK703 z18_11_ hb
         replace BK711 := bb_ BK711 z18_16_ hb
         replace HB := Aside0.mk (below_step z18_0_ hb)
         
         
         
         
         refine hK.out _ _ ⟨(blk_cell BK678.out 0).trans rfl, (blk_cell BK683.out 0).trans rfl, (blk_cell BK693.out 0).trans rfl, (blk_cell BK698.out 0).trans rfl, (blk_cell BK711.out 0).trans rfl, (blk_cell BK711.out 1).trans rfl, (blk_cell BK711.out 2).trans rfl⟩ (fun hHeld => ?_)
         clear hK K
         refine norm_ (a' := ?_) ?_ ?_
         rotate_left
         · show Act.put _ (some 370) _ = _
           simp only [Act.put, List.setIfInBounds_toArray, List.set_cons_zero, List.set_cons_succ, i64_w, i32_w]
           rfl
         refine pq_ 18 371 ?_
         refine pq_ 19 372 ?_
         refine pq_ 20 373 ?_
         refine pq_ 21 374 ?_
         refine pq_ 22 375 ?_
         refine pq_ 23 376 ?_
         refine pq_ 24 377 ?_
         refine pq_ 25 378 ?_
         refine pq_ 26 379 ?_
         refine pq_ 27 380 ?_
         refine pq_ 28 381 ?_
         refine pq_ 29 382 ?_
         refine pq_ 30 383 ?_
         refine take_ (i := 31) (N := some 384) (v := ?_) (a' := ?_) #[true, true, true, true, true, true, true, true, true, true, true, true, true, true, true, true, true, true, true, true, true, true, true, true, true, true, true, true, true, true, true, true, false, false, false, false, false, false, false, false, false, false, false, false, false] rfl rfl (take_ofW HT_.out HW_.out (by kernel_rfl)) (fun _ _ _ h => h) (Or.inl ⟨by rfl, ?_⟩) hHeld ?_ ?_
         rotate_left
         · rintro w' ⟨s0, s1, s2, s3, s4, s5, s6⟩
           go_simp
           with_reducible rfl
         rotate_left
         · simp only [Act.put, List.setIfInBounds_toArray, List.set_cons_zero, List.set_cons_succ, i64_w, i32_w]
           rfl
         refine take_ (i := 33) (N := some 386) (v := ?_) (a' := ?_) #[true, true, true, true, true, true, true, true, true, true, true, true, true, true, true, true, true, true, true, true, true, true, true, true, true, true, true, true, true, true, true, true, false, true, false, false, false, false, false, false, false, false, false, false, false] rfl rfl (take_ofW HT_.out HW_.out (by kernel_rfl)) (fun _ _ _ h => h) (Or.inl ⟨by rfl, ?_⟩) hHeld ?_ ?_
         rotate_left
         · rintro w' ⟨s0, s1, s2, s3, s4, s5, s6⟩
           go_simp
           with_reducible rfl
         rotate_left
         · simp only [Act.put, List.setIfInBounds_toArray, List.set_cons_zero, List.set_cons_succ, i64_w, i32_w]
           rfl
         refine one_ (i := 32) (N := some 385) #[true, true, true, true, true, true, true, true, true, true, true, true, true, true, true, true, true, true, true, true, true, true, true, true, true, true, true, true, true, true, true, true, true, true, false, false, false, false, false, false, false, false, false, false, false] rfl rfl (one_of HT_.out (by kernel_rfl)) (by decide) (fun K hK => ?_)
         refine goes_ Tryz.func31 (by kernel_rfl) rfl #[.agg #[.int .i64 t708, .int .i64 t709, .int .i64 t710]] (by rfl) rfl rfl z18_1_ ?_
         with_reducible refine (impl_IsClue.calls kj110 t708 t709 t710 t719 _ A241.out).mono ?_
         rintro e w263 ⟨rfl, hb⟩
         refine ⟨_, rfl, ?_⟩
         replace HO668 := Aside0.mk (Kd.R_below z18_9_ hb)
         replace HO676 := Aside0.mk (Kd.R_below z18_10_ hb)
         replace HO681 := Aside0.mk (Kd.R_below z18_12_ hb)
         replace HO686 := Aside0.mk (Kd.R_below z18_13_ hb)
         replace HO691 := Aside0.mk (Kd.R_below z18_14_ hb)
         replace HO696 := Aside0.mk (Kd.R_below z18_15_ hb)
         replace BK672 := bb_ BK672 z18_2_ hb
         replace BK673 := bb_ BK673 z18_3_ hb
         replace BK678 := bb_ BK678 z18_6_ hb
         replace BK683 := bb_ BK683 z18_7_ hb
         replace BK688 := bb_ BK688 z18_4_ hb
         replace BK693 := bb_ BK693 z18_5_ hb
         replace BK698 := bb_ BK698 z18_8_ hb
         replace BK703 := bb_ BK703 z18_11_ hb
         replace BK711 := bb_ BK711 z18_16_ hb
         replace HB := Aside0.mk (below_step z18_0_ hb)
         
         
         
         
         refine hK.out _ _ ⟨(blk_cell BK678.out 0).trans rfl, (blk_cell BK683.out 0).trans rfl, (blk_cell BK693.out 0).trans rfl, (blk_cell BK698.out 0).trans rfl, (blk_cell BK711.out 0).trans rfl, (blk_cell BK711.out 1).trans rfl, (blk_cell BK711.out 2).trans rfl⟩ (fun hHeld => ?_)
         clear hK K
         refine norm_ (a' := ?_) ?_ ?_
         rotate_left
         · show Act.put _ (some 385) _ = _
           simp only [Act.put, List.setIfInBounds_toArray, List.set_cons_zero, List.set_cons_succ, i64_w, i32_w]
           rfl
         refine one_ (i := 34) (N := some 387) #[true, true, true, true, true, true, true, true, true, true, true, true, true, true, true, true, true, true, true, true, true, true, true, true, true, true, true, true, true, true, true, true, true, true, true, false, false, false, false, false, false, false, false, false, false] rfl rfl (one_of HT_.out (by kernel_rfl)) (by decide) (fun K hK => ?_)
         refine goes_ Tryz.func32 (by kernel_rfl) rfl #[.agg #[.int .i64 t708, .int .i64 t709, .int .i64 t710]] (by rfl) rfl rfl z18_1_ ?_
         with_reducible refine (spec_IsClue.calls t708 t709 t710 t720 _ A242.out).mono ?_
         rintro e w264 ⟨rfl, hb⟩
         refine ⟨_, rfl, ?_⟩
         replace HO668 := Aside0.mk (Kd.R_below z18_9_ hb)
         replace HO676 := Aside0.mk (Kd.R_below z18_10_ hb)
         replace HO681 := Aside0.mk (Kd.R_below z18_12_ hb)
         replace HO686 := Aside0.mk (Kd.R_below z18_13_ hb)
         replace HO691 := Aside0.mk (Kd.R_below z18_14_ hb)
         replace HO696 := Aside0.mk (Kd.R_below z18_15_ hb)
         replace BK672 := bb_ BK672 z18_2_ hb
         replace BK673 := bb_ BK673 z18_3_ hb
         replace BK678 := bb_ BK678 z18_6_ hb
         replace BK683 := bb_ BK683 z18_7_ hb
         replace BK688 := bb_ BK688 z18_4_ hb
         replace BK693 := bb_ BK693 z18_5_ hb
         replace BK698 := bb_ BK698 z18_8_ hb
         replace BK703 := bb_ BK703 z18_11_ hb
         replace BK711 := bb_ BK711 z18_16_ hb
         replace HB := Aside0.mk (below_step z18_0_ hb)
         
         
         
         
         refine hK.out _ _ ⟨(blk_cell BK678.out 0).trans rfl, (blk_cell BK683.out 0).trans rfl, (blk_cell BK693.out 0).trans rfl, (blk_cell BK698.out 0).trans rfl, (blk_cell BK711.out 0).trans rfl, (blk_cell BK711.out 1).trans rfl, (blk_cell BK711.out 2).trans rfl⟩ (fun hHeld => ?_)
         clear hK K
         refine norm_ (a' := ?_) ?_ ?_
         rotate_left
         · show Act.put _ (some 387) _ = _
           simp only [Act.put, List.setIfInBounds_toArray, List.set_cons_zero, List.set_cons_succ, i64_w, i32_w]
           rfl
         refine pq_ 35 388 ?_
         refine pq_ 36 389 ?_
         refine pq_ 37 390 ?_
         refine pq_ 38 391 ?_
         refine pq_ 39 392 ?_
         refine pn_ 40 393 ?_
         refine pn_ 41 394 ?_
         refine pn_ 42 395 ?_
         refine pq_ 43 396 ?_
         refine pq_ 44 397 ?_
         refine done_ (done_of HT_.out (by kernel_rfl)) ?_
         try go_wp2
         try any_goals (exfalso; exact undef_bool_ (by with_reducible assumption))
         go_meet
         case rel => exact ⟨_, (false), zV_, H', ⟨by have := HJ10.out; have := HJ68.out; have := HJ110.out; first | omega | exact Nat.le_refl _⟩, ⟨by refine rr_ ?_; exact Kd.R_mono HO668.out (fun _ hk => ⟨hk.1, ⟨hk.2.2.1, ⟨hk.2.2.2.1, hk.2.2.2.2.2.1⟩⟩⟩)⟩, ⟨by refine rr_ ?_; exact Kd.R_mono HO676.out (fun _ hk => ⟨hk.1, ⟨hk.2.2.1, ⟨hk.2.2.2.1, hk.2.2.2.2.2.1⟩⟩⟩)⟩, ⟨by refine rr_ ?_; exact Kd.R_mono HO686.out (fun _ hk => ⟨hk.1, ⟨hk.2.1, ⟨hk.2.2.2.1, hk.2.2.2.2.2.1⟩⟩⟩)⟩, ⟨by refine rr_ ?_; exact Kd.R_mono HO691.out (fun _ hk => ⟨hk.1, ⟨hk.2.1, ⟨hk.2.2.2.1, hk.2.2.2.2.2.1⟩⟩⟩)⟩, ⟨b_ BK672.out⟩, ⟨b_ BK673.out⟩, ⟨b_ BK678.out⟩, ⟨b_ BK688.out⟩, ⟨b_ BK693.out⟩, ⟨by repeat (first | (with_reducible first | exact HB.out | apply below_alloc | apply pw_below_drewN | apply below_drew1 | refine below_set ?_ GE672.out | refine below_set ?_ GE673.out | refine below_set ?_ GE678.out | refine below_set ?_ GE683.out | refine below_set ?_ GE688.out | refine below_set ?_ GE693.out | refine below_set ?_ GE698.out | refine below_set ?_ GE703.out | refine below_set ?_ GE711.out) | exact HB.out)⟩⟩
       case rest =>
        as_aux_lemma =>
        clear HC145
        obtain ⟨kq, x397_144, rfl, HA, HJ144, HO_673000, HO_679000, HO_689000, HO_694000, BK672, BK673, BK678, BK688, BK693, HB⟩ := hcut
        cases kq with
        | zero => exact absurd HA.out (by simp [laws_FnTicketsHidden.j4])
        | succ kj144 =>
         have H := HA.out
         clear HA
         simp only [laws_FnTicketsHidden.j4] at H
         by_cases c272 : x397_144 = true
         · subst c272
           rw [if_pos rfl] at H
           as_aux_lemma =>
            exact dead2_ H hr_
         replace H := bf_ c272 H; obtain ⟨rfl, H⟩ := H
         have HC273 := Aside0.mk H
         clear H
         go_upto_if 398 with (fail)
         go_cut [] from 398 to 425 (fun wc => ∃ (kq : Nat), Aside0 (laws_FnTicketsHidden.j5 kq t687 t692 t684 t689 = some r) ∧ Aside0 (kq ≤ kj144) ∧ Aside0 (Kd.R k37 37 wc w.heap.size (fun k_ => some k_ ≠ ((.slice Ao178 t689.length co178) : Value).ownBlock) (.slice Ao170 t684.length co170) t684) ∧ Aside0 (Kd.R k37 37 wc w.heap.size (fun k_ => some k_ ≠ ((.slice Ao170 t684.length co170) : Value).ownBlock) (.slice Ao178 t689.length co178) t689) ∧ Aside0 (wc.heap[gb688]? = some (.cells #[(.slice Ao170 t684.length co170)] 28 (0, 0))) ∧ Aside0 (wc.heap[gb693]? = some (.cells #[(.slice Ao178 t689.length co178)] 28 (0, 0))) ∧ Aside0 (Below w.heap.size w wc))
         case first =>
          as_aux_lemma =>
          have H := HC273.out
          clear HC273
          by_cases c274 : t677 = true
          rotate_left
          · replace H := bf_ c274 H; obtain ⟨rfl, H⟩ := H
            as_aux_lemma =>
             have H' := Aside0.mk H
             clear H
             go_wp2
             try any_goals (exfalso; exact undef_bool_ (by with_reducible assumption))
             go_meet
             case rel => exact ⟨_, H', ⟨by have := HJ10.out; have := HJ68.out; have := HJ110.out; have := HJ144.out; first | omega | exact Nat.le_refl _⟩, ⟨by refine rr_ ?_; exact Kd.R_mono HO_689000.out (fun _ hk => hk.2.2.1)⟩, ⟨by refine rr_ ?_; exact Kd.R_mono HO_694000.out (fun _ hk => hk.2.2.1)⟩, ⟨b_ BK688.out⟩, ⟨b_ BK693.out⟩, ⟨by repeat (first | (with_reducible first | exact HB.out | apply below_alloc | apply pw_below_drewN | apply below_drew1 | refine below_set ?_ GE672.out | refine below_set ?_ GE673.out | refine below_set ?_ GE678.out | refine below_set ?_ GE688.out | refine below_set ?_ GE693.out) | exact HB.out)⟩⟩
          subst c274
          rw [if_pos rfl] at H
          replace H := bd_ H; obtain ⟨⟨t722, t725⟩, A275, H⟩ := H
          dsimp only at H
          by_cases c276 : t725 = true
          rotate_left
          · replace H := bf_ c276 H; obtain ⟨rfl, H⟩ := H
            as_aux_lemma =>
             exact dead2_ H hr_
          subst c276
          rw [if_pos rfl] at H
          replace H := bd_ H; obtain ⟨t729, A277, H⟩ := H
          by_cases c278 : t729 = true
          rotate_left
          · replace H := bf_ c278 H; obtain ⟨rfl, H⟩ := H
            as_aux_lemma =>
             exact dead2_ H hr_
          subst c278
          rw [if_pos rfl] at H
          replace H := gd_ H; obtain ⟨c279, H⟩ := H
          have c279b0 : decide (0 ≤ (t666.length : Int)) = true := decide_eq_true c279
          have c279b1 : decide (0 ≤ t666.length) = true := decide_eq_true (by omega)
          clear c279
          (first | rw [c279b0] | (simp only [i64_w, i32_w]; rw [c279b0]) | skip)
          replace H := gd_ H; obtain ⟨c280, H⟩ := H
          have c280b0 : decide ((t666.length : Int) < (t674.length : Int)) = true := decide_eq_true c280
          have c280b1 : decide (t666.length < t674.length) = true := decide_eq_true (Int.ofNat_lt.mp c280)
          clear c280
          by_cases c281 : (!(((rd_T37 t674 (t666.length : Int)).f0) == t669) || (!(((rd_T37 t674 (t666.length : Int)).f1) == t670) || (!(((rd_T37 t674 (t666.length : Int)).f2) == t671)))) = true
          · exact dead_ (if_pos c281) H hr_
          rw [if_neg c281] at H
          have c281b0 : (!(((rd_T37 t674 (t666.length : Int)).f0) == t669) || (!(((rd_T37 t674 (t666.length : Int)).f1) == t670) || (!(((rd_T37 t674 (t666.length : Int)).f2) == t671)))) = false := by simpa using c281
          clear c281
          as_aux_lemma =>
           have H' := Aside0.mk H
           clear H
           have hnb282 := NB678_672.out
           have hnc282 := NB672_678.out
           have hnb283 := NB678_673.out
           have hnc283 := NB673_678.out
           have hnb284 := NB678_688.out
           have hnc284 := NB688_678.out
           have hnb285 := NB678_693.out
           have hnc285 := NB693_678.out
           have hcz286_0 : wc.cell? ⟨gb678, 0, none⟩ = some (.slice Ao155 t674.length co155) := (blk_cell BK678.out 0).trans rfl
           have hfz286_0 := blk_frozen BK678.out 0
           have hnb287 := NB672_673.out
           have hnc287 := NB673_672.out
           have hnb288 := NB672_688.out
           have hnc288 := NB688_672.out
           have hnb289 := NB672_693.out
           have hnc289 := NB693_672.out
           have hcz290_0 : wc.cell? ⟨gb672, 0, none⟩ = some (.slice Ao149 t666.length co149) := (blk_cell BK672.out 0).trans rfl
           have hfz290_0 := blk_frozen BK672.out 0
           try go_wp2_with (first | ((with_reducible refine gc_ 26 rfl ?_); refine gL_ 404 Tryz.func26 #[.agg #[.slice Ao155 t674.length co155], .int .i64 (t666.length : Int)] ?_; (with_reducible refine (impl_DropClue.calls kj144 _ _ t674 (t666.length : Int) t722 true _ ?side1 ?side2 A275.out).mono ?_); (case side1 => repeat (first | exact (Kd.R_reads' HO_679000.out).2.2 | (with_reducible refine Kd.C_alloc ?_ _) | (with_reducible refine Kd.C_drewN ?_ _) | (with_reducible refine Kd.C_drew ?_))); (case side2 => exact (Kd.R_reads' HO_679000.out).2.1); rintro e w291 ⟨v723, rfl, ho0, hb⟩; refine ⟨_, rfl, ?_⟩; have HO724 := Aside0.mk (Kd.R_lower (Kd.R_newB (Kd.R_new' (Kd.R_new' (Kd.R_new' (Kd.R_new' ho0 (Kd.R_lt z18_50_)) (Kd.R_lt z18_51_)) (Kd.R_lt z18_32_)) (Kd.R_lt z18_33_)) (g := gb673) (o := .cells #[.int .i64 t669, .int .i64 t670, .int .i64 t671] 37 (0, 0)) z18_3_) (below_size z18_27_)); replace HO_673000 := Aside0.mk (Kd.R_elder' z18_50_ (Kd.R_base ho0) hb); replace HO_679000 := Aside0.mk (Kd.R_elder' z18_51_ (Kd.R_base ho0) hb); replace HO_689000 := Aside0.mk (Kd.R_elder' z18_32_ (Kd.R_base ho0) hb); replace HO_694000 := Aside0.mk (Kd.R_elder' z18_33_ (Kd.R_base ho0) hb); replace BK672 := bb_ BK672 z18_2_ hb; replace BK673 := bb_ BK673 z18_3_ hb; replace BK678 := bb_ BK678 z18_6_ hb; replace BK688 := bb_ BK688 z18_4_ hb; replace BK693 := bb_ BK693 z18_5_ hb; replace HB := Aside0.mk (below_step z18_27_ hb)) | ((with_reducible refine gate_dst (N := 63) rfl ?_); refine bxg_ 63 #[.slice none 0 0] 28 ?_; intro gb726 hg w292 hbox hb; replace HO_673000 := Aside0.mk (Kd.R_below z18_50_ hb); replace HO_679000 := Aside0.mk (Kd.R_below z18_51_ hb); replace HO_689000 := Aside0.mk (Kd.R_below z18_32_ hb); replace HO_694000 := Aside0.mk (Kd.R_below z18_33_ hb); replace HO724 := Aside0.mk (Kd.R_below zq18_28_ hb); have BK726 := Aside0.mk (hbox); have GW726 : Aside0 (w.heap.size ≤ gb726) := bs_ hg z18_27_; have GE726 := GW726; replace HB := Aside0.mk (below_step z18_27_ hb); have NB672_726 := nl_ BK672 z18_2_ hg; have NB726_672 := ns_ NB672_726; replace BK672 := bb_ BK672 z18_2_ hb; have NB673_726 := nl_ BK673 z18_3_ hg; have NB726_673 := ns_ NB673_726; replace BK673 := bb_ BK673 z18_3_ hb; have NB678_726 := nl_ BK678 z18_6_ hg; have NB726_678 := ns_ NB678_726; replace BK678 := bb_ BK678 z18_6_ hb; have NB688_726 := nl_ BK688 z18_4_ hg; have NB726_688 := ns_ NB688_726; replace BK688 := bb_ BK688 z18_4_ hb; have NB693_726 := nl_ BK693 z18_5_ hg; have NB726_693 := ns_ NB693_726; replace BK693 := bb_ BK693 z18_5_ hb; clear hb hbox hg; obtain ⟨Ao293, co293, eo293⟩ := Kd.R_slice HO724.out; subst eo293; have hnb294 := NB726_672.out; have hnc294 := NB672_726.out; have hnb295 := NB726_673.out; have hnc295 := NB673_726.out; have hnb296 := NB726_678.out; have hnc296 := NB678_726.out; have hnb297 := NB726_688.out; have hnc297 := NB688_726.out; have hnb298 := NB726_693.out; have hnc298 := NB693_726.out; have hcz299_0 : w292.cell? ⟨gb726, 0, none⟩ = some (.slice none 0 0) := (blk_cell BK726.out 0).trans rfl; have hfz299_0 := blk_frozen BK726.out 0))
           have n0_ : Aside0 (Kd.R k37 37 (w292.setCell ⟨gb726, 0, none⟩ (.slice Ao293 t722.length co293)) w.heap.size (fun k_ => some k_ ≠ (.slice Ao155 t674.length co155 : Value).ownBlock ∧ some k_ ≠ (.slice Ao170 t684.length co170 : Value).ownBlock ∧ some k_ ≠ (.slice Ao178 t689.length co178 : Value).ownBlock ∧ some k_ ≠ (.slice Ao293 t722.length co293 : Value).ownBlock ∧ k_ ≠ gb673) (.slice Ao149 t666.length co149) t666) := ⟨by refine rr_ ?_; exact Kd.R_mono (Kd.R_far (p := ⟨gb726, 0, none⟩) (Kd.R_types HO_673000.out BK726.out (by decide)) (fun _ hk => hk.2) (.slice Ao293 t722.length co293)) (fun _ hk => ⟨hk.1.1.1, ⟨hk.1.1.2.1, ⟨hk.1.1.2.2.1, ⟨hk.1.2, hk.1.1.2.2.2⟩⟩⟩⟩)⟩
           have n1_ : Aside0 (Kd.R k37 37 (w292.setCell ⟨gb726, 0, none⟩ (.slice Ao293 t722.length co293)) w.heap.size (fun k_ => some k_ ≠ (.slice Ao149 t666.length co149 : Value).ownBlock ∧ some k_ ≠ (.slice Ao170 t684.length co170 : Value).ownBlock ∧ some k_ ≠ (.slice Ao178 t689.length co178 : Value).ownBlock ∧ some k_ ≠ (.slice Ao293 t722.length co293 : Value).ownBlock ∧ k_ ≠ gb673) (.slice Ao155 t674.length co155) t674) := ⟨by refine rr_ ?_; exact Kd.R_mono (Kd.R_far (p := ⟨gb726, 0, none⟩) (Kd.R_types HO_679000.out BK726.out (by decide)) (fun _ hk => hk.2) (.slice Ao293 t722.length co293)) (fun _ hk => ⟨hk.1.1.1, ⟨hk.1.1.2.1, ⟨hk.1.1.2.2.1, ⟨hk.1.2, hk.1.1.2.2.2⟩⟩⟩⟩)⟩
           have n2_ : Aside0 (Kd.R k37 37 (w292.setCell ⟨gb726, 0, none⟩ (.slice Ao293 t722.length co293)) w.heap.size (fun k_ => some k_ ≠ (.slice Ao149 t666.length co149 : Value).ownBlock ∧ some k_ ≠ (.slice Ao155 t674.length co155 : Value).ownBlock ∧ some k_ ≠ (.slice Ao178 t689.length co178 : Value).ownBlock ∧ some k_ ≠ (.slice Ao293 t722.length co293 : Value).ownBlock ∧ k_ ≠ gb673) (.slice Ao170 t684.length co170) t684) := ⟨by refine rr_ ?_; exact Kd.R_mono (Kd.R_far (p := ⟨gb726, 0, none⟩) (Kd.R_types HO_689000.out BK726.out (by decide)) (fun _ hk => hk.2) (.slice Ao293 t722.length co293)) (fun _ hk => ⟨hk.1.1.1, ⟨hk.1.1.2.1, ⟨hk.1.1.2.2.1, ⟨hk.1.2, hk.1.1.2.2.2⟩⟩⟩⟩)⟩
           have n3_ : Aside0 (Kd.R k37 37 (w292.setCell ⟨gb726, 0, none⟩ (.slice Ao293 t722.length co293)) w.heap.size (fun k_ => some k_ ≠ (.slice Ao149 t666.length co149 : Value).ownBlock ∧ some k_ ≠ (.slice Ao155 t674.length co155 : Value).ownBlock ∧ some k_ ≠ (.slice Ao170 t684.length co170 : Value).ownBlock ∧ some k_ ≠ (.slice Ao293 t722.length co293 : Value).ownBlock ∧ k_ ≠ gb673) (.slice Ao178 t689.length co178) t689) := ⟨by refine rr_ ?_; exact Kd.R_mono (Kd.R_far (p := ⟨gb726, 0, none⟩) (Kd.R_types HO_694000.out BK726.out (by decide)) (fun _ hk => hk.2) (.slice Ao293 t722.length co293)) (fun _ hk => ⟨hk.1.1.1, ⟨hk.1.1.2.1, ⟨hk.1.1.2.2.1, ⟨hk.1.2, hk.1.1.2.2.2⟩⟩⟩⟩)⟩
           have n4_ : Aside0 (Kd.R k37 37 (w292.setCell ⟨gb726, 0, none⟩ (.slice Ao293 t722.length co293)) w.heap.size (fun k_ => some k_ ≠ (.slice Ao149 t666.length co149 : Value).ownBlock ∧ some k_ ≠ (.slice Ao155 t674.length co155 : Value).ownBlock ∧ some k_ ≠ (.slice Ao170 t684.length co170 : Value).ownBlock ∧ some k_ ≠ (.slice Ao178 t689.length co178 : Value).ownBlock ∧ k_ ≠ gb673) (.slice Ao293 t722.length co293) t722) := ⟨by refine rr_ ?_; exact Kd.R_mono (Kd.R_far (p := ⟨gb726, 0, none⟩) (Kd.R_types HO724.out BK726.out (by decide)) (fun _ hk => hk.2) (.slice Ao293 t722.length co293)) (fun _ hk => ⟨hk.1.1.1.1.1.2, ⟨hk.1.1.1.1.2, ⟨hk.1.1.1.2, ⟨hk.1.1.2, hk.1.2⟩⟩⟩⟩)⟩
           have n5_ : Aside0 ((w292.setCell ⟨gb726, 0, none⟩ (.slice Ao293 t722.length co293)).heap[gb672]? = some (.cells #[.slice Ao149 t666.length co149] 28 (0, 0))) := ⟨by refine b_ ?_; refine blk_far ?_ NB672_726.out _; exact b_ BK672.out⟩
           have n6_ : Aside0 ((w292.setCell ⟨gb726, 0, none⟩ (.slice Ao293 t722.length co293)).heap[gb673]? = some (.cells #[.int .i64 t669, .int .i64 t670, .int .i64 t671] 37 (0, 0))) := ⟨by refine b_ ?_; refine blk_far ?_ NB673_726.out _; exact b_ BK673.out⟩
           have n7_ : Aside0 ((w292.setCell ⟨gb726, 0, none⟩ (.slice Ao293 t722.length co293)).heap[gb678]? = some (.cells #[.slice Ao155 t674.length co155] 28 (0, 0))) := ⟨by refine b_ ?_; refine blk_far ?_ NB678_726.out _; exact b_ BK678.out⟩
           have n8_ : Aside0 ((w292.setCell ⟨gb726, 0, none⟩ (.slice Ao293 t722.length co293)).heap[gb688]? = some (.cells #[.slice Ao170 t684.length co170] 28 (0, 0))) := ⟨by refine b_ ?_; refine blk_far ?_ NB688_726.out _; exact b_ BK688.out⟩
           have n9_ : Aside0 ((w292.setCell ⟨gb726, 0, none⟩ (.slice Ao293 t722.length co293)).heap[gb693]? = some (.cells #[.slice Ao178 t689.length co178] 28 (0, 0))) := ⟨by refine b_ ?_; refine blk_far ?_ NB693_726.out _; exact b_ BK693.out⟩
           have n10_ : Aside0 ((w292.setCell ⟨gb726, 0, none⟩ (.slice Ao293 t722.length co293)).heap[gb726]? = some (.cells #[.slice Ao293 t722.length co293] 28 (0, 0))) := ⟨by refine b_ ?_; refine blk_put (cs := #[.slice none 0 0]) ?_ 0 _ rfl; exact b_ BK726.out⟩
           have n11_ : Aside0 (Below w.heap.size w (w292.setCell ⟨gb726, 0, none⟩ (.slice Ao293 t722.length co293))) := ⟨by repeat (first | (with_reducible first | exact HB.out | apply below_alloc | apply pw_below_drewN | apply below_drew1 | refine below_set ?_ GE672.out | refine below_set ?_ GE673.out | refine below_set ?_ GE678.out | refine below_set ?_ GE688.out | refine below_set ?_ GE693.out | refine below_set ?_ GE726.out) | exact HB.out)⟩
           generalize (w292.setCell ⟨gb726, 0, none⟩ (.slice Ao293 t722.length co293)) = w300 at n0_ n1_ n2_ n3_ n4_ n5_ n6_ n7_ n8_ n9_ n10_ n11_ ⊢
           have HO_673000 := n0_
           have HO_679000 := n1_
           have HO_689000 := n2_
           have HO_694000 := n3_
           have HO724 := n4_
           have BK672 := n5_
           have BK673 := n6_
           have BK678 := n7_
           have BK688 := n8_
           have BK693 := n9_
           have BK726 := n10_
           have HB := n11_
           clear n0_ n1_ n2_ n3_ n4_ n5_ n6_ n7_ n8_ n9_ n10_ n11_
           replace HO_673000 := Aside0.mk (Kd.R_drew HO_673000.out)
           replace HO_679000 := Aside0.mk (Kd.R_drew HO_679000.out)
           replace HO_689000 := Aside0.mk (Kd.R_drew HO_689000.out)
           replace HO_694000 := Aside0.mk (Kd.R_drew HO_694000.out)
           replace HO724 := Aside0.mk (Kd.R_drew HO724.out)
           replace BK672 := Aside0.mk (blk_drew BK672.out)
           replace BK673 := Aside0.mk (blk_drew BK673.out)
           replace BK678 := Aside0.mk (blk_drew BK678.out)
           replace BK688 := Aside0.mk (blk_drew BK688.out)
           replace BK693 := Aside0.mk (blk_drew BK693.out)
           replace BK726 := Aside0.mk (blk_drew BK726.out)
           replace HB := Aside0.mk (below_drew1 HB.out)
           have p730 : 0 ≤ ((t666.length : Int) : Int) := of_decide_eq_true zS_
           have q730 : (t666.length : Int) < (t674.length : Int) := of_decide_eq_true zS_
           obtain ⟨ad730, e730, hx730_0, hx730_1, hx730_2⟩ := at_T37 (Kd.R_reads' HO_679000.out).2.2 (t666.length : Int) p730 q730
           cases e730
           (try simp only [Go.IntWalk.toNatUp] at hx730_0)
           (try simp only [Go.IntWalk.toNatUp] at hx730_1)
           (try simp only [Go.IntWalk.toNatUp] at hx730_2)
           replace p730 := eq_true p730
           replace q730 := eq_true q730
           refine start_ (n := 19) (S := fun w' => w'.cell? ⟨gb726, 0, none⟩ = some (.slice Ao293 t722.length co293) ∧ w'.cell? ⟨gb672, 0, none⟩ = some (.slice Ao149 t666.length co149) ∧ w'.cell? ⟨gb678, 0, none⟩ = some (.slice (some ad730) t674.length co155) ∧ w'.cell? ⟨gb673, 0, none⟩ = some (.int .i64 t669) ∧ w'.cell? ⟨gb673, 1, none⟩ = some (.int .i64 t670) ∧ w'.cell? ⟨gb673, 2, none⟩ = some (.int .i64 t671) ∧ w'.cell? (ad730.add (t666.length * 3)) = some (.int .i64 ((rd_T37 t674 (t666.length : Int)).f0)) ∧ w'.cell? ⟨(ad730.add (t666.length * 3)).block, (ad730.add (t666.length * 3)).off + 1, none⟩ = some (.int .i64 ((rd_T37 t674 (t666.length : Int)).f1)) ∧ w'.cell? ⟨(ad730.add (t666.length * 3)).block, (ad730.add (t666.length * 3)).off + 2, none⟩ = some (.int .i64 ((rd_T37 t674 (t666.length : Int)).f2))) (ds := []) #[false, false, false, false, false, false, false, false, false, false, false, false, false, false, false, false, false, false, false] (by kernel_rfl) rfl rfl ⟨(blk_cell BK726.out 0).trans rfl, (blk_cell BK672.out 0).trans rfl, (blk_cell BK678.out 0).trans rfl, (blk_cell BK673.out 0).trans rfl, (blk_cell BK673.out 1).trans rfl, (blk_cell BK673.out 2).trans rfl, hx730_0, hx730_1, hx730_2⟩ (fun hHeld => ?_); refine with_tabW laws_FnTicketsHidden.tab51 laws_FnTicketsHidden.bits51 (fun HT_ HW_ => ?_)
           generalize w300.drew = w301 at HO_673000 HO_679000 HO_689000 HO_694000 HO724 BK672 BK673 BK678 BK688 BK693 BK726 HB hx730_0 hx730_1 hx730_2 hHeld ⊢
           refine pq_ 0 407 ?_
           refine pq_ 1 408 ?_
           refine pq_ 2 409 ?_
           refine take_ (i := 3) (N := some 410) (v := ?_) (a' := ?_) #[true, true, true, true, false, false, false, false, false, false, false, false, false, false, false, false, false, false, false] rfl rfl (take_ofW HT_.out HW_.out (by kernel_rfl)) (fun _ _ _ h => h) (Or.inl ⟨by rfl, ?_⟩) hHeld ?_ ?_
           rotate_left
           · rintro w' ⟨s0, s1, s2, s3, s4, s5, s6, s7, s8⟩
             go_simp
             with_reducible rfl
           rotate_left
           · simp only [Act.put, List.setIfInBounds_toArray, List.set_cons_zero, List.set_cons_succ, i64_w, i32_w]
             rfl
           refine take_ (i := 4) (N := some 411) (v := ?_) (a' := ?_) #[true, true, true, true, true, false, false, false, false, false, false, false, false, false, false, false, false, false, false] rfl rfl (take_ofW HT_.out HW_.out (by kernel_rfl)) (fun _ _ _ h => h) (Or.inl ⟨by rfl, ?_⟩) hHeld ?_ ?_
           rotate_left
           · rintro w' ⟨s0, s1, s2, s3, s4, s5, s6, s7, s8⟩
             go_simp
             with_reducible rfl
           rotate_left
           · simp only [Act.put, List.setIfInBounds_toArray, List.set_cons_zero, List.set_cons_succ, i64_w, i32_w]
             rfl
           refine one_ (i := 5) (N := some 412) #[true, true, true, true, true, true, false, false, false, false, false, false, false, false, false, false, false, false, false] rfl rfl (one_of HT_.out (by kernel_rfl)) (by decide) (fun K hK => ?_)
           refine goes_ Tryz.func9 (by kernel_rfl) rfl #[.agg #[.slice Ao293 t722.length co293], .agg #[.slice Ao149 t666.length co149]] (by rfl) rfl rfl z18_1_ ?_
           with_reducible refine (laws_iPuzzle.calls kj144 _ _ t722 _ _ t666 true _ ?side1 ?side2 ?side3 ?side4 A277.out).mono ?_
           (case side1 => repeat (first | exact (Kd.R_reads' HO724.out).2.2 | (with_reducible refine Kd.C_alloc ?_ _) | (with_reducible refine Kd.C_drewN ?_ _) | (with_reducible refine Kd.C_drew ?_)))
           (case side2 => exact (Kd.R_reads' HO724.out).2.1)
           (case side3 => repeat (first | exact (Kd.R_reads' HO_673000.out).2.2 | (with_reducible refine Kd.C_alloc ?_ _) | (with_reducible refine Kd.C_drewN ?_ _) | (with_reducible refine Kd.C_drew ?_)))
           (case side4 => exact (Kd.R_reads' HO_673000.out).2.1)
           rintro e w302 ⟨rfl, hb⟩
           have HS6_ := (hb.cell (World.block_lt_of_cell? _ _ (hHeld.2.2.2.2.2.2.1))).trans (hHeld.2.2.2.2.2.2.1)
           have HS7_ := (hb.cell (World.block_lt_of_cell? _ _ (hHeld.2.2.2.2.2.2.2.1))).trans (hHeld.2.2.2.2.2.2.2.1)
           have HS8_ := (hb.cell (World.block_lt_of_cell? _ _ (hHeld.2.2.2.2.2.2.2.2))).trans (hHeld.2.2.2.2.2.2.2.2)
           refine ⟨_, rfl, ?_⟩
           replace HO_673000 := Aside0.mk (Kd.R_below z18_50_ hb)
           replace HO_679000 := Aside0.mk (Kd.R_below z18_51_ hb)
           replace HO_689000 := Aside0.mk (Kd.R_below z18_32_ hb)
           replace HO_694000 := Aside0.mk (Kd.R_below z18_33_ hb)
           replace HO724 := Aside0.mk (Kd.R_below zq18_28_ hb)
           replace BK672 := bb_ BK672 z18_2_ hb
           replace BK673 := bb_ BK673 z18_3_ hb
           replace BK678 := bb_ BK678 z18_6_ hb
           replace BK688 := bb_ BK688 z18_4_ hb
           replace BK693 := bb_ BK693 z18_5_ hb
           replace BK726 := bb_ BK726 (b_ BK726.out) hb
           replace HB := Aside0.mk (below_step (by repeat (first | (with_reducible first | exact HB.out | apply below_alloc | apply pw_below_drewN | apply below_drew1 | refine below_set ?_ GE672.out | refine below_set ?_ GE673.out | refine below_set ?_ GE678.out | refine below_set ?_ GE688.out | refine below_set ?_ GE693.out | refine below_set ?_ GE726.out) | exact HB.out)) hb)
           
           
           
           
           refine hK.out _ _ ⟨(blk_cell BK726.out 0).trans rfl, (blk_cell BK672.out 0).trans rfl, (blk_cell BK678.out 0).trans rfl, (blk_cell BK673.out 0).trans rfl, (blk_cell BK673.out 1).trans rfl, (blk_cell BK673.out 2).trans rfl, HS6_, HS7_, HS8_⟩ (fun hHeld => ?_)
           clear hK K
           refine norm_ (a' := ?_) ?_ ?_
           rotate_left
           · show Act.put _ (some 412) _ = _
             simp only [Act.put, List.setIfInBounds_toArray, List.set_cons_zero, List.set_cons_succ, i64_w, i32_w]
             rfl
           refine pq_ 6 413 ?_
           refine pq_ 7 414 ?_
           refine pq_ 8 415 ?_
           refine pq_ 9 416 ?_
           refine pq_ 11 418 ?_
           refine take_ (i := 10) (N := some 417) (v := ?_) (a' := ?_) #[true, true, true, true, true, true, true, true, true, true, true, true, false, false, false, false, false, false, false] rfl rfl (take_ofW HT_.out HW_.out (by kernel_rfl)) (fun _ _ _ h => h) (Or.inl ⟨by rfl, ?_⟩) hHeld ?_ ?_
           rotate_left
           · rintro w' ⟨s0, s1, s2, s3, s4, s5, s6, s7, s8⟩
             go_simp
             with_reducible rfl
           rotate_left
           · simp only [Act.put, List.setIfInBounds_toArray, List.set_cons_zero, List.set_cons_succ, i64_w, i32_w]
             rfl
           refine take_ (i := 12) (N := some 419) (v := ?_) (a' := ?_) #[true, true, true, true, true, true, true, true, true, true, true, true, true, false, false, false, false, false, false] rfl rfl (take_ofW HT_.out HW_.out (by kernel_rfl)) (fun _ _ _ h => h) (Or.inl ⟨by rfl, ?_⟩) hHeld ?_ ?_
           rotate_left
           · rintro w' ⟨s0, s1, s2, s3, s4, s5, s6, s7, s8⟩
             go_simp
             with_reducible rfl
           rotate_left
           · simp only [Act.put, List.setIfInBounds_toArray, List.set_cons_zero, List.set_cons_succ, i64_w, i32_w]
             rfl
           refine pq_ 13 420 ?_
           refine pq_ 14 421 ?_
           refine take_ (i := 15) (N := some 422) (v := ?_) (a' := ?_) #[true, true, true, true, true, true, true, true, true, true, true, true, true, true, true, true, false, false, false] rfl rfl (take_ofW HT_.out HW_.out (by kernel_rfl)) (fun _ _ _ h => h) (Or.inl ⟨by rfl, ?_⟩) hHeld ?_ ?_
           rotate_left
           · rintro w' ⟨s0, s1, s2, s3, s4, s5, s6, s7, s8⟩
             go_simp
             with_reducible rfl
           rotate_left
           · simp only [Act.put, List.setIfInBounds_toArray, List.set_cons_zero, List.set_cons_succ, i64_w, i32_w]
             rfl
           refine take_ (i := 16) (N := some 423) (v := ?_) (a' := ?_) #[true, true, true, true, true, true, true, true, true, true, true, true, true, true, true, true, true, false, false] rfl rfl (take_ofW HT_.out HW_.out (by kernel_rfl)) (fun _ _ _ h => h) (Or.inl ⟨by rfl, ?_⟩) hHeld ?_ ?_
           rotate_left
           · rintro w' ⟨s0, s1, s2, s3, s4, s5, s6, s7, s8⟩
             go_simp
             with_reducible rfl
           rotate_left
           · simp only [Act.put, List.setIfInBounds_toArray, List.set_cons_zero, List.set_cons_succ, i64_w, i32_w]
             rfl
           refine pq_ 17 424 ?_
           refine pq_ 18 425 ?_
           refine done_ (done_of HT_.out (by kernel_rfl)) ?_
           try go_wp2
           try any_goals (exfalso; exact undef_bool_ (by with_reducible assumption))
           go_meet
           case rel => exact ⟨_, H', ⟨by have := HJ10.out; have := HJ68.out; have := HJ110.out; have := HJ144.out; first | omega | exact Nat.le_refl _⟩, ⟨by refine rr_ ?_; exact Kd.R_mono HO_689000.out (fun _ hk => hk.2.2.1)⟩, ⟨by refine rr_ ?_; exact Kd.R_mono HO_694000.out (fun _ hk => hk.2.2.1)⟩, ⟨b_ BK688.out⟩, ⟨b_ BK693.out⟩, ⟨by repeat (first | (with_reducible first | exact HB.out | apply below_alloc | apply pw_below_drewN | apply below_drew1 | refine below_set ?_ GE672.out | refine below_set ?_ GE673.out | refine below_set ?_ GE678.out | refine below_set ?_ GE688.out | refine below_set ?_ GE693.out | refine below_set ?_ GE726.out) | exact HB.out)⟩⟩
         case rest =>
          as_aux_lemma =>
          clear HC273
          obtain ⟨kq, HA, HJ272, HO_689000, HO_694000, BK688, BK693, HB⟩ := hcut
          cases kq with
          | zero => exact absurd HA.out (by simp [laws_FnTicketsHidden.j5])
          | succ kj272 =>
           have H := HA.out
           clear HA
           simp only [laws_FnTicketsHidden.j5] at H
           have HC303 := Aside0.mk H
           clear H
           go_upto_region 53 with (fail)
           go_cut [434] from 426 to 434 (fun v434 wc => ∃ (kq : Nat) (x434_302 : Bool), v434 = .bool x434_302 ∧ Aside0 (laws_FnTicketsHidden.j6 kq t687 x434_302 t684 t689 = some r) ∧ Aside0 (kq ≤ kj272) ∧ Aside0 (Kd.R k37 37 wc w.heap.size (fun k_ => some k_ ≠ ((.slice Ao178 t689.length co178) : Value).ownBlock) (.slice Ao170 t684.length co170) t684) ∧ Aside0 (Kd.R k37 37 wc w.heap.size (fun k_ => some k_ ≠ ((.slice Ao170 t684.length co170) : Value).ownBlock) (.slice Ao178 t689.length co178) t689) ∧ Aside0 (wc.heap[gb688]? = some (.cells #[(.slice Ao170 t684.length co170)] 28 (0, 0))) ∧ Aside0 (wc.heap[gb693]? = some (.cells #[(.slice Ao178 t689.length co178)] 28 (0, 0))) ∧ Aside0 (Below w.heap.size w wc))
           case first =>
            as_aux_lemma =>
            have H := HC303.out
            clear HC303
            by_cases c304 : t692 = true
            · subst c304
              rw [if_pos rfl] at H
              as_aux_lemma =>
               have H' := Aside0.mk H
               clear H
               have hnb305 := NB688_693.out
               have hnc305 := NB693_688.out
               have hcz306_0 : wc.cell? ⟨gb688, 0, none⟩ = some (.slice Ao170 t684.length co170) := (blk_cell BK688.out 0).trans rfl
               have hfz306_0 := blk_frozen BK688.out 0
               go_wp2
               try any_goals (exfalso; exact undef_bool_ (by with_reducible assumption))
               go_meet
               case rel => exact ⟨_, ((t687 == (wrap64 ((t684.length : Int) - 1)))), zV_, H', ⟨by have := HJ10.out; have := HJ68.out; have := HJ110.out; have := HJ144.out; have := HJ272.out; first | omega | exact Nat.le_refl _⟩, ⟨rr_ HO_689000.out⟩, ⟨rr_ HO_694000.out⟩, ⟨b_ BK688.out⟩, ⟨b_ BK693.out⟩, ⟨by repeat (first | (with_reducible first | exact HB.out | apply below_alloc | apply pw_below_drewN | apply below_drew1 | refine below_set ?_ GE688.out | refine below_set ?_ GE693.out) | exact HB.out)⟩⟩
            replace H := bf_ c304 H; obtain ⟨rfl, H⟩ := H
            as_aux_lemma =>
             have H' := Aside0.mk H
             clear H
             go_wp2
             try any_goals (exfalso; exact undef_bool_ (by with_reducible assumption))
             go_meet
             case rel => exact ⟨_, (false), zV_, H', ⟨by have := HJ10.out; have := HJ68.out; have := HJ110.out; have := HJ144.out; have := HJ272.out; first | omega | exact Nat.le_refl _⟩, ⟨rr_ HO_689000.out⟩, ⟨rr_ HO_694000.out⟩, ⟨b_ BK688.out⟩, ⟨b_ BK693.out⟩, ⟨by repeat (first | (with_reducible first | exact HB.out | apply below_alloc | apply pw_below_drewN | apply below_drew1 | refine below_set ?_ GE688.out | refine below_set ?_ GE693.out) | exact HB.out)⟩⟩
           case rest =>
            as_aux_lemma =>
            clear HC303
            obtain ⟨kq, x434_302, rfl, HA, HJ302, HO_689000, HO_694000, BK688, BK693, HB⟩ := hcut
            cases kq with
            | zero => exact absurd HA.out (by simp [laws_FnTicketsHidden.j6])
            | succ kj302 =>
             have H := HA.out
             clear HA
             simp only [laws_FnTicketsHidden.j6] at H
             by_cases c307 : x434_302 = true
             rotate_left
             · replace H := bf_ c307 H; obtain ⟨rfl, H⟩ := H
               as_aux_lemma =>
                obtain rfl := Option.some.inj H
                go_wp2
                go_ret
                exact ⟨zL_, by repeat (first | (with_reducible first | exact HB.out | apply below_alloc | apply pw_below_drewN | apply below_drew1 | refine below_set ?_ GE688.out | refine below_set ?_ GE693.out) | exact HB.out)⟩
             subst c307
             rw [if_pos rfl] at H
             replace H := gd_ H; obtain ⟨c308, H⟩ := H
             have c308b0 : decide (0 ≤ t687) = true := decide_eq_true c308
             clear c308
             replace H := gd_ H; obtain ⟨c309, H⟩ := H
             have c309b0 : decide (t687 < (t684.length : Int)) = true := decide_eq_true c309
             clear c309
             replace H := bd_ H; obtain ⟨⟨t732, t735⟩, A310, H⟩ := H
             dsimp only at H
             by_cases c311 : t735 = true
             rotate_left
             · replace H := bf_ c311 H; obtain ⟨rfl, H⟩ := H
               as_aux_lemma =>
                exact dead2_ H hr_
             subst c311
             rw [if_pos rfl] at H
             replace H := bd_ H; obtain ⟨t737, A312, H⟩ := H
             as_aux_lemma =>
              obtain rfl := Option.some.inj H
              try go_wp2
              replace HO_689000 := Aside0.mk (Kd.R_drew HO_689000.out)
              replace HO_694000 := Aside0.mk (Kd.R_drew HO_694000.out)
              replace BK688 := Aside0.mk (blk_drew BK688.out)
              replace BK693 := Aside0.mk (blk_drew BK693.out)
              replace HB := Aside0.mk (below_drew1 HB.out)
              have p731 : 0 ≤ (t687 : Int) := of_decide_eq_true zS_
              have q731 : t687 < (t684.length : Int) := of_decide_eq_true zS_
              obtain ⟨ad731, e731, hx731_0, hx731_1, hx731_2⟩ := at_T37 (Kd.R_reads' HO_689000.out).2.2 t687 p731 q731
              cases e731
              replace p731 := eq_true p731
              replace q731 := eq_true q731
              refine start_ (n := 13) (S := fun w' => w'.cell? ⟨gb693, 0, none⟩ = some (.slice Ao178 t689.length co178) ∧ w'.cell? ⟨gb688, 0, none⟩ = some (.slice (some ad731) t684.length co170) ∧ w'.cell? (ad731.add ((t687).toNat * 3)) = some (.int .i64 ((rd_T37 t684 t687).f0)) ∧ w'.cell? ⟨(ad731.add ((t687).toNat * 3)).block, (ad731.add ((t687).toNat * 3)).off + 1, none⟩ = some (.int .i64 ((rd_T37 t684 t687).f1)) ∧ w'.cell? ⟨(ad731.add ((t687).toNat * 3)).block, (ad731.add ((t687).toNat * 3)).off + 2, none⟩ = some (.int .i64 ((rd_T37 t684 t687).f2))) (ds := []) #[false, false, false, false, false, false, false, false, false, false, false, false, false] (by kernel_rfl) rfl rfl ⟨(blk_cell BK693.out 0).trans rfl, (blk_cell BK688.out 0).trans rfl, hx731_0, hx731_1, hx731_2⟩ (fun hHeld => ?_); refine with_tabW laws_FnTicketsHidden.tab54 laws_FnTicketsHidden.bits54 (fun HT_ HW_ => ?_)
              generalize wc.drew = w313 at HO_689000 HO_694000 BK688 BK693 HB hx731_0 hx731_1 hx731_2 hHeld ⊢
              refine pq_ 1 437 ?_
              refine pq_ 3 439 ?_
              refine take_ (i := 0) (N := some 436) (v := ?_) (a' := ?_) #[true, true, false, true, false, false, false, false, false, false, false, false, false] rfl rfl (take_ofW HT_.out HW_.out (by kernel_rfl)) (fun _ _ _ h => h) (Or.inl ⟨by rfl, ?_⟩) hHeld ?_ ?_
              rotate_left
              · rintro w' ⟨s0, s1, s2, s3, s4⟩
                go_simp
                with_reducible rfl
              rotate_left
              · simp only [Act.put, List.setIfInBounds_toArray, List.set_cons_zero, List.set_cons_succ, i64_w, i32_w]
                rfl
              refine take_ (i := 2) (N := some 438) (v := ?_) (a' := ?_) #[true, true, true, true, false, false, false, false, false, false, false, false, false] rfl rfl (take_ofW HT_.out HW_.out (by kernel_rfl)) (fun _ _ _ h => h) (Or.inl ⟨by rfl, ?_⟩) hHeld ?_ ?_
              rotate_left
              · rintro w' ⟨s0, s1, s2, s3, s4⟩
                go_simp
                with_reducible rfl
              rotate_left
              · simp only [Act.put, List.setIfInBounds_toArray, List.set_cons_zero, List.set_cons_succ, i64_w, i32_w]
                rfl
              refine pq_ 4 440 ?_
              refine take_ (i := 5) (N := some 441) (v := ?_) (a' := ?_) #[true, true, true, true, true, true, false, false, false, false, false, false, false] rfl rfl (take_ofW HT_.out HW_.out (by kernel_rfl)) (fun _ _ _ h => h) (Or.inl ⟨by rfl, ?_⟩) hHeld ?_ ?_
              rotate_left
              · rintro w' ⟨s0, s1, s2, s3, s4⟩
                go_simp
                with_reducible rfl
              rotate_left
              · simp only [Act.put, List.setIfInBounds_toArray, List.set_cons_zero, List.set_cons_succ, i64_w, i32_w]
                rfl
              refine join_ (σ := Value × Nat) 2 #[true, true, true, true, true, true, true, true, true, true, true, false, false] (fun s_ => [(442, .tuple #[.agg #[s_.1], .bool true]), (65, .pointer (some ⟨s_.2, 0, none⟩)), (435, .tuple #[.agg #[s_.1], .bool true]), (443, .agg #[s_.1]), (444, .bool true)]) (fun s_ w' => (w'.cell? ⟨gb693, 0, none⟩ = some (.slice Ao178 t689.length co178) ∧ w'.cell? ⟨gb688, 0, none⟩ = some (.slice (some ad731) t684.length co170) ∧ w'.cell? (ad731.add ((t687).toNat * 3)) = some (.int .i64 ((rd_T37 t684 t687).f0)) ∧ w'.cell? ⟨(ad731.add ((t687).toNat * 3)).block, (ad731.add ((t687).toNat * 3)).off + 1, none⟩ = some (.int .i64 ((rd_T37 t684 t687).f1)) ∧ w'.cell? ⟨(ad731.add ((t687).toNat * 3)).block, (ad731.add ((t687).toNat * 3)).off + 2, none⟩ = some (.int .i64 ((rd_T37 t684 t687).f2))) ∧ (Kd.R k37 37 w' w.heap.size (fun k_ => some k_ ≠ (.slice (some ad731) t684.length co170 : Value).ownBlock ∧ some k_ ≠ (.slice Ao178 t689.length co178 : Value).ownBlock) s_.1 t732) ∧ (Kd.R k37 37 w' w.heap.size (fun k_ => some k_ ≠ (s_.1 : Value).ownBlock ∧ some k_ ≠ (.slice Ao178 t689.length co178 : Value).ownBlock) (.slice (some ad731) t684.length co170) t684) ∧ (Kd.R k37 37 w' w.heap.size (fun k_ => some k_ ≠ (s_.1 : Value).ownBlock ∧ some k_ ≠ (.slice (some ad731) t684.length co170 : Value).ownBlock) (.slice Ao178 t689.length co178) t689) ∧ (w'.heap[gb688]? = some (.cells #[.slice (some ad731) t684.length co170] 28 (0, 0))) ∧ (w'.heap[gb693]? = some (.cells #[.slice Ao178 t689.length co178] 28 (0, 0))) ∧ (w'.heap[s_.2]? = some (.cells #[.slice none 0 0] 28 (0, 0))) ∧ (w.heap.size ≤ s_.2) ∧ (w.heap.size ≤ s_.2) ∧ (gb688 ≠ s_.2) ∧ (s_.2 ≠ gb688) ∧ (gb693 ≠ s_.2) ∧ (s_.2 ≠ gb693) ∧ (Below w.heap.size w w')) ?_ ?_
              rotate_left
              · intro hCont
                refine two_ (i := 6) (j := 10) (Ni := some 442) (Nj := some 65) #[true, true, true, true, true, true, true, false, false, false, false, false, false] #[true, true, true, true, true, true, false, false, false, false, true, false, false] rfl rfl rfl rfl (two_of HT_.out (by kernel_rfl)) (by decide) (by decide) (fun K hK => ?_) (fun K hK => ?_)
                · skip
                  refine goes_ Tryz.func23 (by kernel_rfl) rfl #[.agg #[.slice Ao178 t689.length co178], .agg #[.int .i64 ((rd_T37 t684 t687).f0), .int .i64 ((rd_T37 t684 t687).f1), .int .i64 ((rd_T37 t684 t687).f2)]] (by rfl) rfl rfl z18_1_ ?_
                  with_reducible refine (impl_AddClue.calls kj302 _ _ t689 ((rd_T37 t684 t687).f0) ((rd_T37 t684 t687).f1) ((rd_T37 t684 t687).f2) t732 true _ ?side1 ?side2 A310.out).mono ?_
                  (case side1 => exact zc18_1_)
                  (case side2 => exact (Kd.R_reads' HO_694000.out).2.1)
                  rintro e w314 ⟨v733, rfl, ho0, hb⟩
                  have HS2_ := (hb.cell (World.block_lt_of_cell? _ _ (hHeld.2.2.1))).trans (hHeld.2.2.1)
                  have HS3_ := (hb.cell (World.block_lt_of_cell? _ _ (hHeld.2.2.2.1))).trans (hHeld.2.2.2.1)
                  have HS4_ := (hb.cell (World.block_lt_of_cell? _ _ (hHeld.2.2.2.2))).trans (hHeld.2.2.2.2)
                  refine ⟨_, rfl, ?_⟩
                  have HO734 := Aside0.mk (Kd.R_lower (Kd.R_new' (Kd.R_new' ho0 (Kd.R_lt z18_32_)) (Kd.R_lt z18_33_)) (below_size z18_23_))
                  replace HO_689000 := Aside0.mk (Kd.R_elder' z18_32_ (Kd.R_base ho0) hb)
                  replace HO_694000 := Aside0.mk (Kd.R_elder' z18_33_ (Kd.R_base ho0) hb)
                  replace BK688 := bb_ BK688 z18_4_ hb
                  replace BK693 := bb_ BK693 z18_5_ hb
                  replace HB := Aside0.mk (below_step z18_23_ hb)
                  
                  
                  
                  
                  
                  refine hK.out _ _ ⟨(blk_cell BK693.out 0).trans rfl, (blk_cell BK688.out 0).trans rfl, HS2_, HS3_, HS4_⟩ (fun hHeld => ?_)
                  clear hK K
                  refine norm_ (a' := ?_) ?_ ?_
                  rotate_left
                  · show Act.put _ (some 442) _ = _
                    simp only [Act.put, List.setIfInBounds_toArray, List.set_cons_zero, List.set_cons_succ, i64_w, i32_w]
                    rfl
                  refine pq_ 7 435 ?_
                  refine pq_ 8 443 ?_
                  refine pq_ 9 444 ?_
                  refine one_ (i := 10) (N := some 65) #[true, true, true, true, true, true, true, true, true, true, true, false, false] rfl rfl (one_of HT_.out (by kernel_rfl)) (by decide) (fun K hK => ?_)
                  refine box_step ?hg (N := 65) ?hd (cs := #[.slice none 0 0]) (t := 28) ?hr ?_; (case hd => rfl); (case hg => rfl); (case hr => first | (go_simp; done) | (go_simp; rfl))
                  intro gb736 hg w315 hbox hb
                  have HS2_ := (hb.cell (World.block_lt_of_cell? _ _ (hHeld.2.2.1))).trans (hHeld.2.2.1)
                  have HS3_ := (hb.cell (World.block_lt_of_cell? _ _ (hHeld.2.2.2.1))).trans (hHeld.2.2.2.1)
                  have HS4_ := (hb.cell (World.block_lt_of_cell? _ _ (hHeld.2.2.2.2))).trans (hHeld.2.2.2.2)
                  replace HO_689000 := Aside0.mk (Kd.R_below z18_32_ hb)
                  replace HO_694000 := Aside0.mk (Kd.R_below z18_33_ hb)
                  replace HO734 := Aside0.mk (Kd.R_below (rr_ HO734.out) hb)
                  have BK736 := Aside0.mk (hbox)
                  have GW736 : Aside0 (w.heap.size ≤ gb736) := bs_ hg z18_23_
                  have GE736 : Aside0 (w.heap.size ≤ gb736) := bs_ hg z18_23_
                  replace HB := Aside0.mk (below_step z18_23_ hb)
                  have NB688_736 := nl_ BK688 z18_4_ hg
                  have NB736_688 := ns_ NB688_736
                  replace BK688 := bb_ BK688 z18_4_ hb
                  have NB693_736 := nl_ BK693 z18_5_ hg
                  have NB736_693 := ns_ NB693_736
                  replace BK693 := bb_ BK693 z18_5_ hb
                  clear hb hbox hg
                  refine hK.out _ _ ⟨(blk_cell BK693.out 0).trans rfl, (blk_cell BK688.out 0).trans rfl, HS2_, HS3_, HS4_⟩ (fun hHeld => ?_)
                  clear hK K
                  refine norm_ (a' := ?_) ?_ ?_
                  rotate_left
                  · show Act.put _ (some 65) _ = _
                    simp only [Act.put, List.setIfInBounds_toArray, List.set_cons_zero, List.set_cons_succ, i64_w, i32_w]
                    rfl
                  exact norm_ zq18_29_ (hCont (v733, gb736) _ ⟨hHeld, zq18_27_, zq18_26_, zq18_25_, z18_4_, z18_5_, z18_54_, GW736.out, GE736.out, NB688_736.out, NB736_688.out, NB693_736.out, NB736_693.out, z18_31_⟩)
                skip
                refine box_step ?hg (N := 65) ?hd (cs := #[.slice none 0 0]) (t := 28) ?hr ?_; (case hd => rfl); (case hg => rfl); (case hr => first | (go_simp; done) | (go_simp; rfl))
                intro gb736 hg w314 hbox hb
                have HS2_ := (hb.cell (World.block_lt_of_cell? _ _ (hHeld.2.2.1))).trans (hHeld.2.2.1)
                have HS3_ := (hb.cell (World.block_lt_of_cell? _ _ (hHeld.2.2.2.1))).trans (hHeld.2.2.2.1)
                have HS4_ := (hb.cell (World.block_lt_of_cell? _ _ (hHeld.2.2.2.2))).trans (hHeld.2.2.2.2)
                replace HO_689000 := Aside0.mk (Kd.R_below z18_32_ hb)
                replace HO_694000 := Aside0.mk (Kd.R_below z18_33_ hb)
                have BK736 := Aside0.mk (hbox)
                have GW736 : Aside0 (w.heap.size ≤ gb736) := bs_ hg z18_23_
                have GE736 : Aside0 (w.heap.size ≤ gb736) := bs_ hg z18_23_
                replace HB := Aside0.mk (below_step z18_23_ hb)
                have NB688_736 := nl_ BK688 z18_4_ hg
                have NB736_688 := ns_ NB688_736
                replace BK688 := bb_ BK688 z18_4_ hb
                have NB693_736 := nl_ BK693 z18_5_ hg
                have NB736_693 := ns_ NB693_736
                replace BK693 := bb_ BK693 z18_5_ hb
                clear hb hbox hg
                refine hK.out _ _ ⟨(blk_cell BK693.out 0).trans rfl, (blk_cell BK688.out 0).trans rfl, HS2_, HS3_, HS4_⟩ (fun hHeld => ?_)
                clear hK K
                refine norm_ (a' := ?_) ?_ ?_
                rotate_left
                · show Act.put _ (some 65) _ = _
                  simp only [Act.put, List.setIfInBounds_toArray, List.set_cons_zero, List.set_cons_succ, i64_w, i32_w]
                  rfl
                refine one_ (i := 6) (N := some 442) #[true, true, true, true, true, true, true, false, false, false, true, false, false] rfl rfl (one_of HT_.out (by kernel_rfl)) (by decide) (fun K hK => ?_)
                refine goes_ Tryz.func23 (by kernel_rfl) rfl #[.agg #[.slice Ao178 t689.length co178], .agg #[.int .i64 ((rd_T37 t684 t687).f0), .int .i64 ((rd_T37 t684 t687).f1), .int .i64 ((rd_T37 t684 t687).f2)]] (by rfl) rfl rfl z18_1_ ?_
                with_reducible refine (impl_AddClue.calls kj302 _ _ t689 ((rd_T37 t684 t687).f0) ((rd_T37 t684 t687).f1) ((rd_T37 t684 t687).f2) t732 true _ ?side1 ?side2 A310.out).mono ?_
                (case side1 => exact zc18_1_)
                (case side2 => exact (Kd.R_reads' HO_694000.out).2.1)
                rintro e w315 ⟨v733, rfl, ho0, hb⟩
                have HS2_ := (hb.cell (World.block_lt_of_cell? _ _ (hHeld.2.2.1))).trans (hHeld.2.2.1)
                have HS3_ := (hb.cell (World.block_lt_of_cell? _ _ (hHeld.2.2.2.1))).trans (hHeld.2.2.2.1)
                have HS4_ := (hb.cell (World.block_lt_of_cell? _ _ (hHeld.2.2.2.2))).trans (hHeld.2.2.2.2)
                refine ⟨_, rfl, ?_⟩
                have HO734 := Aside0.mk (Kd.R_lower (Kd.R_new' (Kd.R_new' ho0 (Kd.R_lt z18_32_)) (Kd.R_lt z18_33_)) (below_size z18_31_))
                replace HO_689000 := Aside0.mk (Kd.R_elder' z18_32_ (Kd.R_base ho0) hb)
                replace HO_694000 := Aside0.mk (Kd.R_elder' z18_33_ (Kd.R_base ho0) hb)
                replace BK688 := bb_ BK688 z18_4_ hb
                replace BK693 := bb_ BK693 z18_5_ hb
                replace BK736 := bb_ BK736 z18_54_ hb
                replace HB := Aside0.mk (below_step z18_31_ hb)
                
                
                
                
                
                refine hK.out _ _ ⟨(blk_cell BK693.out 0).trans rfl, (blk_cell BK688.out 0).trans rfl, HS2_, HS3_, HS4_⟩ (fun hHeld => ?_)
                clear hK K
                refine norm_ (a' := ?_) ?_ ?_
                rotate_left
                · show Act.put _ (some 442) _ = _
                  simp only [Act.put, List.setIfInBounds_toArray, List.set_cons_zero, List.set_cons_succ, i64_w, i32_w]
                  rfl
                refine pq_ 7 435 ?_
                refine pq_ 8 443 ?_
                refine pq_ 9 444 ?_
                exact norm_ zq18_29_ (hCont (v733, gb736) _ ⟨hHeld, zq18_27_, zq18_26_, zq18_25_, z18_4_, z18_5_, z18_54_, GW736.out, GE736.out, NB688_736.out, NB736_688.out, NB693_736.out, NB736_693.out, z18_31_⟩)
              rintro ⟨v733, gb736⟩ w316 ⟨hS_, h0_, h1_, h2_, h3_, h4_, h5_, h6_, h7_, h8_, h9_, h10_, h11_, h12_⟩
              have n0_ : Aside0 (Kd.R k37 37 w316 w.heap.size (fun k_ => some k_ ≠ (.slice (some ad731) t684.length co170 : Value).ownBlock ∧ some k_ ≠ (.slice Ao178 t689.length co178 : Value).ownBlock) v733 t732) := ⟨h0_⟩
              have n1_ : Aside0 (Kd.R k37 37 w316 w.heap.size (fun k_ => some k_ ≠ (v733 : Value).ownBlock ∧ some k_ ≠ (.slice Ao178 t689.length co178 : Value).ownBlock) (.slice (some ad731) t684.length co170) t684) := ⟨h1_⟩
              have n2_ : Aside0 (Kd.R k37 37 w316 w.heap.size (fun k_ => some k_ ≠ (v733 : Value).ownBlock ∧ some k_ ≠ (.slice (some ad731) t684.length co170 : Value).ownBlock) (.slice Ao178 t689.length co178) t689) := ⟨h2_⟩
              have n3_ : Aside0 (w316.heap[gb688]? = some (.cells #[.slice (some ad731) t684.length co170] 28 (0, 0))) := ⟨h3_⟩
              have n4_ : Aside0 (w316.heap[gb693]? = some (.cells #[.slice Ao178 t689.length co178] 28 (0, 0))) := ⟨h4_⟩
              have n5_ : Aside0 (w316.heap[gb736]? = some (.cells #[.slice none 0 0] 28 (0, 0))) := ⟨h5_⟩
              have n6_ : Aside0 (w.heap.size ≤ gb736) := ⟨h6_⟩
              have n7_ : Aside0 (w.heap.size ≤ gb736) := ⟨h7_⟩
              have n8_ : Aside0 (gb688 ≠ gb736) := ⟨h8_⟩
              have n9_ : Aside0 (gb736 ≠ gb688) := ⟨h9_⟩
              have n10_ : Aside0 (gb693 ≠ gb736) := ⟨h10_⟩
              have n11_ : Aside0 (gb736 ≠ gb693) := ⟨h11_⟩
              have n12_ : Aside0 (Below w.heap.size w w316) := ⟨h12_⟩
              clear HO_689000
              clear HO_694000
              clear BK688
              clear BK693
              clear HB
              clear h0_ h1_ h2_ h3_ h4_ h5_ h6_ h7_ h8_ h9_ h10_ h11_ h12_
              have HO734 := n0_
              have HO_689000 := n1_
              have HO_694000 := n2_
              have BK688 := n3_
              have BK693 := n4_
              have BK736 := n5_
              have GW736 := n6_
              have GE736 := n7_
              have NB688_736 := n8_
              have NB736_688 := n9_
              have NB693_736 := n10_
              have NB736_693 := n11_
              have HB := n12_
              clear n0_ n1_ n2_ n3_ n4_ n5_ n6_ n7_ n8_ n9_ n10_ n11_ n12_
              have hHeld : w316.cell? ⟨gb693, 0, none⟩ = some (.slice Ao178 t689.length co178) ∧ w316.cell? ⟨gb688, 0, none⟩ = some (.slice (some ad731) t684.length co170) ∧ w316.cell? (ad731.add ((t687).toNat * 3)) = some (.int .i64 ((rd_T37 t684 t687).f0)) ∧ w316.cell? ⟨(ad731.add ((t687).toNat * 3)).block, (ad731.add ((t687).toNat * 3)).off + 1, none⟩ = some (.int .i64 ((rd_T37 t684 t687).f1)) ∧ w316.cell? ⟨(ad731.add ((t687).toNat * 3)).block, (ad731.add ((t687).toNat * 3)).off + 2, none⟩ = some (.int .i64 ((rd_T37 t684 t687).f2)) := hS_
              obtain ⟨Ao317, co317, eo317⟩ := Kd.R_slice HO734.out
              (first | subst eo317 | (injection eo317 with f1_ f2_ f3_; have f4_ := f1_.symm; have f5_ := f3_.symm; clear f1_ f2_ f3_; subst f4_; subst f5_))
              refine norm_ (a' := ?_) ?_ ?_
              rotate_left
              · simp only [putAll, Act.put, List.setIfInBounds_toArray, List.set_cons_zero, List.set_cons_succ]
                rfl
              refine one_ (i := 11) (N := none) #[true, true, true, true, true, true, true, true, true, true, true, true, false] rfl rfl (one_of HT_.out (by kernel_rfl)) (by decide) (fun K hK => ?_)
              have hs318 : w316.cell? ⟨gb736, 0, none⟩ = some (.slice none 0 0) := (blk_cell BK736.out 0).trans rfl
              have hfs318 := blk_frozen BK736.out 0
              have hns318_0 := NB688_736.out
              have hns318_1 := NB693_736.out
              have hms318_0 := NB736_688.out
              have hms318_1 := NB736_693.out
              refine skip_ (w1 := ?_) (by rfl) rfl ?_ ?_
              rotate_left
              · go_simp
                rfl
              refine hK.out _ _ ⟨((cell_far (p := ⟨gb736, _, none⟩) NB693_736.out _).trans (hHeld.1)), ((cell_far (p := ⟨gb736, _, none⟩) NB688_736.out _).trans (hHeld.2.1)), ((cell_far (p := ⟨gb736, _, none⟩) zq18_1_ _).trans (hHeld.2.2.1)), ((cell_far (p := ⟨gb736, _, none⟩) zq18_1_ _).trans (hHeld.2.2.2.1)), ((cell_far (p := ⟨gb736, _, none⟩) zq18_1_ _).trans (hHeld.2.2.2.2))⟩ (fun hHeld => ?_)
              clear hK K
              refine pq_ 12 66 ?_
              refine done_ (done_of HT_.out (by kernel_rfl)) ?_
              have hnb319 := NB736_688.out
              have hnc319 := NB688_736.out
              have hnb320 := NB736_693.out
              have hnc320 := NB693_736.out
              have hcz321_0 : w316.cell? ⟨gb736, 0, none⟩ = some (.slice none 0 0) := (blk_cell BK736.out 0).trans rfl
              have hfz321_0 := blk_frozen BK736.out 0
              have hnb322 := NB688_693.out
              have hnc322 := NB693_688.out
              have hcz323_0 : w316.cell? ⟨gb688, 0, none⟩ = some (.slice (some ad731) t684.length co170) := (blk_cell BK688.out 0).trans rfl
              have hfz323_0 := blk_frozen BK688.out 0
              try go_wp2_with (first | (go_at_call 9; (with_reducible refine (laws_iPuzzle.calls kj302 _ _ t732 _ _ t684 t737 _ ?side1 ?side2 ?side3 ?side4 A312.out).mono ?_); (case side1 => refine (Kd.R_reads' (e := 37) (base := w.heap.size) (ok := fun k_ => (some k_ ≠ (.slice (some ad731) t684.length co170 : Value).ownBlock ∧ some k_ ≠ (.slice Ao178 t689.length co178 : Value).ownBlock)) (n := t732.length) (c := co317) ?_).2.2; exact zq18_8_); (case side2 => exact (Kd.R_reads' HO734.out).2.1); (case side3 => refine (Kd.R_reads' (e := 37) (base := w.heap.size) (ok := fun k_ => (some k_ ≠ (.slice Ao317 t732.length co317 : Value).ownBlock ∧ some k_ ≠ (.slice Ao178 t689.length co178 : Value).ownBlock)) (n := t684.length) (c := co170) ?_).2.2; exact zq18_7_); (case side4 => exact (Kd.R_reads' HO_689000.out).2.1); rintro e w324 ⟨rfl, hb⟩; replace HO_689000 := Aside0.mk (Kd.R_below zq18_7_ hb); replace HO_694000 := Aside0.mk (Kd.R_below (by refine rr_ ?_; exact (Kd.R_mono (Kd.R_far (p := ⟨gb736, 0, none⟩) (Kd.R_types HO_694000.out BK736.out (by decide)) (fun _ hk => hk.2) (.slice Ao317 t732.length co317)) (fun _ h_ => h_.1))) hb); replace HO734 := Aside0.mk (Kd.R_below zq18_8_ hb); replace BK688 := bb_ BK688 (by refine b_ ?_; refine blk_far ?_ NB688_736.out _; exact b_ BK688.out) hb; replace BK693 := bb_ BK693 (by refine b_ ?_; refine blk_far ?_ NB693_736.out _; exact b_ BK693.out) hb; replace BK736 := Aside0.mk (blk_below (g := gb736) (o := .cells #[.slice Ao317 t732.length co317] 28 (0, 0)) (by refine b_ ?_; refine blk_put (cs := #[.slice none 0 0]) ?_ 0 _ rfl; exact b_ BK736.out) hb); replace HB := Aside0.mk (below_step z18_31_ hb)))
              go_ret
              exact ⟨zL_, by repeat (first | (with_reducible first | exact HB.out | apply below_alloc | apply pw_below_drewN | apply below_drew1 | refine below_set ?_ GE688.out | refine below_set ?_ GE693.out | refine below_set ?_ GE736.out) | exact HB.out)⟩

/-- THE ONE PURE STATEMENT of laws_FnTicketsHidden: yours. -/
def laws_FnTicketsHidden.Pure : Prop := ∀ (l0 : List Int) (l1 : List Int), l0.length ≤ maxLen → l0.length * 1 ≤ 140737488351232 → (∀ x ∈ l0, (Lit.int .u8 x).wf = true) → l1.length ≤ maxLen → l1.length * 1 ≤ 140737488351232 → (∀ x ∈ l1, (Lit.int .u8 x).wf = true) → ∃ k, laws_FnTicketsHidden.f k l0 l1 = some true
theorem laws_FnTicketsHidden.walk (P : laws_FnTicketsHidden.Pure) (a0 : Option Addr) (len0 cap0 : Nat) (z0 : List Int) (a1 : Option Addr) (len1 cap1 : Nat) (z1 : List Int) (w : World) (w0 : (a0 = none ∧ len0 = 0 ∧ cap0 = 0 ∧ z0 = []) ∨ ∃ x, a0 = some x ∧ len0 ≤ cap0 ∧ cap0 ≤ maxLen ∧ z0.length = cap0 ∧ (∀ i, i < z0.length → w.cell? (x.add i) = some (.int .u8 (z0.getD i 0))) ∧ ∀ n ∈ z0, (Lit.int .u8 n).wf = true) (y0 : len0 * 1 ≤ 140737488351232) (w1 : (a1 = none ∧ len1 = 0 ∧ cap1 = 0 ∧ z1 = []) ∨ ∃ x, a1 = some x ∧ len1 ≤ cap1 ∧ cap1 ≤ maxLen ∧ z1.length = cap1 ∧ (∀ i, i < z1.length → w.cell? (x.add i) = some (.int .u8 (z1.getD i 0))) ∧ ∀ n ∈ z1, (Lit.int .u8 n).wf = true) (y1 : len1 * 1 ≤ 140737488351232) :
 Calls Tryz.prog 3 #[.slice a0 len0 cap0, .slice a1 len1 cap1] w fun e w' => e = .returned (.bool true) ∧ Below w.heap.size w w' := by
 obtain ⟨l0, rfl, hr0, hm0, hw0, hc0⟩ := ReadsInt.ofRowC w0
 obtain ⟨l1, rfl, hr1, hm1, hw1, hc1⟩ := ReadsInt.ofRowC w1
 obtain ⟨k, h⟩ := P l0 l1 hm0 y0 hw0 hm1 y1 hw1
 refine (laws_FnTicketsHidden.calls k _ _ l0 _ _ l1 true w (Kd.C_of_reads (d := (0 : Int)) (h1 := fun _ => rfl) hr0) hc0 (Kd.C_of_reads (d := (0 : Int)) (h1 := fun _ => rfl) hr1) hc1 (Aside0.mk rfl) h).mono ?_
 rintro e w' ⟨rfl, hd⟩
 exact ⟨rfl, hd⟩

end Go.Proofs.YtebchgfjfobbbaaGreatDoor.PFnTicketsHidden

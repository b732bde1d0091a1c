-- Laid by this session's program gprint.py over the kit's print.
import Derived.Test.YtebchgfjfobbbaaGreatDoorSq
import Derived.Test.YtebchgfjfobbbaaGreatDoorZip
import Derived.Test.YtebchgfjfobbbaaGreatDoorPFnTicketsHiddenx6
import Derived.Test.YtebchgfjfobbbaaGreatDoorPFnTicketsHiddenx11
import Derived.Test.YtebchgfjfobbbaaGreatDoorPFnTicketsHiddenx15
namespace Go.Proofs.YtebchgfjfobbbaaGreatDoor.PFnTicketsHidden
open Go.RowKit Go.Proofs.YtebchgfjfobbbaaGreatDoorW.PrintWords Go.Proofs.YtebchgfjfobbbaaGreatDoorW.PrintLast Go.Proofs.YtebchgfjfobbbaaGreatDoorW.PrintMore
attribute [local go_sem] max2_int min2_int max_two min_two max_three min_three max_four min_four   -- for this text's walks alone
set_option linter.unusedVariables false
set_option linter.unusedSimpArgs false
theorem zq17_0_ {p : Prop} (h : p := by simp only [putAll, Act.put, List.setIfInBounds_toArray, List.set_cons_zero, List.set_cons_succ]) : p := h
theorem zq17_1_ {p : Prop} (h : p := by refine rr_ ?_; exact Kd.R_mono HO499.out (fun _ hk => ⟨hk.1.2, hk.2⟩)) : p := h
theorem zq17_2_ {p : Prop} (h : p := by exact rr_ HO507.out) : p := h
theorem zq17_3_ {p : Prop} (h : p := by exact rr_ HO493.out) : p := h
theorem zc17_0_ {p : Prop} (h : p := by repeat (first | (with_reducible first | exact HI531.out | apply IsS74.alloc | apply IsS74.drewN | apply IsS74.drew | apply IsS74.set_1 | apply IsS74.set_2 | refine IsS74.far ?_ NB531_530.out _ | refine IsS74.far ?_ NB531_542.out _) | exact HI531.out)) : p := h
theorem zc17_1_ {p : Prop} (h : p := by repeat (first | (with_reducible first | exact HB.out | apply below_alloc | apply pw_below_drewN | apply below_drew1 | refine below_set ?_ (IsS74.ge HI531.out) | refine below_set ?_ GE530.out | refine below_set ?_ GE542.out) | exact HB.out)) : p := h
theorem zc17_2_ {p : Prop} (h : p := by repeat (first | (with_reducible first | exact HI504.out | apply IsS74.alloc | apply IsS74.drewN | apply IsS74.drew | apply IsS74.set_1 | apply IsS74.set_2 | refine IsS74.far ?_ NB504_503.out _) | exact HI504.out)) : p := h
theorem zc17_3_ {p : Prop} (h : p := by repeat (first | (with_reducible first | exact HI531.out | apply IsS74.alloc | apply IsS74.drewN | apply IsS74.drew | apply IsS74.set_1 | apply IsS74.set_2 | refine IsS74.far ?_ NB531_530.out _) | exact HI531.out)) : p := h
theorem zc17_4_ {p : Prop} (h : p := by repeat (first | (with_reducible first | exact HI568.out | apply IsS74.alloc | apply IsS74.drewN | apply IsS74.drew | apply IsS74.set_1 | apply IsS74.set_2 | refine IsS74.far ?_ NB568_567.out _) | exact HI568.out)) : p := h
theorem zc17_5_ {p : Prop} (h : p := by repeat (first | (with_reducible first | exact HB.out | apply below_alloc | apply pw_below_drewN | apply below_drew1 | refine below_set ?_ (IsS74.ge HI504.out) | refine below_set ?_ GE503.out) | exact HB.out)) : p := h
theorem zc17_6_ {p : Prop} (h : p := by repeat (first | (with_reducible first | exact HB.out | apply below_alloc | apply pw_below_drewN | apply below_drew1 | refine below_set ?_ (IsS74.ge HI531.out) | refine below_set ?_ GE530.out) | exact HB.out)) : p := h
theorem zc17_7_ {p : Prop} (h : p := by repeat (first | (with_reducible first | exact HB.out | apply below_alloc | apply pw_below_drewN | apply below_drew1 | refine below_set ?_ (IsS74.ge HI568.out) | refine below_set ?_ GE567.out) | exact HB.out)) : p := h
theorem zc17_8_ {p : Prop} (h : p := by exact (Reps.c3 (show Kd.M k37 _ _ _ (⟨a1_0, a1_1, a1_2⟩ : S37) [.int .i64 a1_0, .int .i64 a1_1, .int .i64 a1_2] from (k37_mkM _ _ _ (⟨a1_0, a1_1, a1_2⟩ : S37) )) (Reps.none _ _))) : p := h
theorem zc17_9_ {p : Prop} (h : p := by repeat (first | exact (Kd.C_below HR0_0.out HB.out) | (with_reducible refine Kd.C_alloc ?_ _) | (with_reducible refine Kd.C_drewN ?_ _) | (with_reducible refine Kd.C_drew ?_))) : p := h
theorem zc17_10_ {p : Prop} (h : p := by exact (fun k_ hk => ⟨Kd.fresh' (Kd.R_lt z16_21_) k_ hk, Kd.freshB (g := gb487) (o := .cells #[.int .i64 a1_0, .int .i64 a1_1, .int .i64 a1_2] 37 (0, 0)) z16_2_ k_ hk⟩)) : p := h
theorem zc17_11_ {p : Prop} (h : p := by first | (go_simp; done) | (go_simp; rfl)) : p := h
theorem z16_0_ {p : Prop} (h : p := by repeat (first | (with_reducible first | exact HB.out | apply below_alloc | apply pw_below_drewN | apply below_drew1 | refine below_set ?_ GE486.out | refine below_set ?_ GE487.out | refine below_set ?_ GE488.out) | exact HB.out)) : p := h
theorem z16_1_ {p : Prop} (h : p := by exact b_ BK486.out) : p := h
theorem z16_2_ {p : Prop} (h : p := by exact b_ BK487.out) : p := h
theorem z16_4_ {p : Prop} (h : p := by repeat (first | (with_reducible first | exact HB.out | apply below_alloc | apply pw_below_drewN | apply below_drew1 | refine below_set ?_ GE486.out | refine below_set ?_ GE487.out) | exact HB.out)) : p := h
theorem z16_5_ {p : Prop} (h : p := by exact b_ BK488.out) : p := h
theorem z16_6_ {p : Prop} (h : p := by (try simp only [List.map_toArray, List.map_cons, List.map_nil]); first | done | rfl | (simp only [List.length_drop, List.length_take]; rfl)) : p := h
theorem z16_7_ {p : Prop} (h : p := by repeat (first | (with_reducible first | exact HB.out | apply below_alloc | apply pw_below_drewN | apply below_drew1 | refine below_set ?_ GE486.out) | exact HB.out)) : p := h
theorem z16_8_ {p : Prop} (h : p := by exact b_ BK516.out) : p := h
theorem z16_9_ {p : Prop} (h : p := by exact b_ BK523.out) : p := h
theorem z16_10_ {p : Prop} (h : p := by repeat (first | (with_reducible first | exact HB.out | apply below_alloc | apply pw_below_drewN | apply below_drew1 | refine below_set ?_ GE516.out) | exact HB.out)) : p := h
theorem z16_11_ {p : Prop} (h : p := by repeat (first | (with_reducible first | exact HB.out | apply below_alloc | apply pw_below_drewN | apply below_drew1 | refine below_set ?_ GE523.out) | exact HB.out)) : p := h
theorem z16_12_ {p : Prop} (h : p := by repeat (first | (with_reducible first | exact HB.out | apply below_alloc | apply pw_below_drewN | apply below_drew1 | refine below_set ?_ GE516.out | refine below_set ?_ GE517.out) | exact HB.out)) : p := h
theorem z16_13_ {p : Prop} (h : p := by repeat (first | (with_reducible first | exact HB.out | apply below_alloc | apply pw_below_drewN | apply below_drew1 | refine below_set ?_ GE523.out | refine below_set ?_ GE524.out) | exact HB.out)) : p := h
theorem z16_14_ {p : Prop} (h : p := by refine b_ ?_; refine blk_put (cs := #[.slice none 0 0]) ?_ 0 _ rfl; exact b_ BK488.out) : p := h
theorem z16_15_ {p : Prop} (h : p := by refine b_ ?_; refine blk_put (cs := #[.slice none 0 0]) ?_ 0 _ rfl; exact b_ BK517.out) : p := h
theorem z16_16_ {p : Prop} (h : p := by refine b_ ?_; refine blk_put (cs := #[.slice none 0 0]) ?_ 0 _ rfl; exact b_ BK524.out) : p := h
theorem z16_17_ {p : Prop} (h : p := by exact b_ BK503.out) : p := h
theorem z16_18_ {p : Prop} (h : p := by exact b_ BK517.out) : p := h
theorem z16_19_ {p : Prop} (h : p := by exact b_ BK524.out) : p := h
theorem z16_20_ {p : Prop} (h : p := by exact rr_ HO496.out) : p := h
theorem z16_21_ {p : Prop} (h : p := by exact rr_ HO499.out) : p := h
theorem z16_22_ {p : Prop} (h : p := by refine rr_ ?_; exact Kd.R_mono HO499.out (fun _ hk => ⟨hk.2, hk.1⟩)) : p := h

/-! ### spec_AddClue: function 24 -/
def spec_AddClue.f (k : Nat) (l0_0 : List (S37)) (a1_0 : Int) (a1_1 : Int) (a1_2 : Int) : Option ((List (S37)) × Bool) := (spec_pzGood.f k l0_0).bind fun t489 => (if t489 = true then ((spec_pzClue.f a1_0 a1_1 a1_2).bind fun t490 => (if t490 = true then (if (l0_0.length : Int) = 6 then (some (([] : List (S37)), false)) else ((some (([] : List (S37)) : List (S37))).bind fun y491 => (if y491.length + l0_0.length < 5864062014805 then ((some (y491 ++ l0_0 : List (S37))).bind fun y494 => ((some (([(⟨a1_0, a1_1, a1_2⟩ : S37)] : List (S37)) : List (S37))).bind fun y497 => (if y494.length + y497.length < 5864062014805 then (some ((y494 ++ y497), true)) else (none)))) else (none)))) else (some (([] : List (S37)), false)))) else (some (([] : List (S37)), false)))
theorem spec_AddClue.mono : ∀ a0 a1 a2 a3 k, LeO (spec_AddClue.f k a0 a1 a2 a3) (spec_AddClue.f (k + 1) a0 a1 a2 a3) := by
 intro a0 a1 a2 a3 k
 unfold spec_AddClue.f
 have m1_ := @spec_pzGood.mono
 exact zM_
def spec_AddClue.T3 : Bool × List (List Nat × List Nat) := (true, [([], []), ([], []), ([1], [1]), ([0, 2], [0, 2]), ([], []), ([4], [4]), ([3, 5, 3], [3, 5]), ([6], [6]), ([7, 6, 0, 1, 2, 3, 4, 5, 6, 7], [7]), ([8, 0, 1, 2, 3, 4, 5, 6, 7, 8], [])])
def spec_AddClue.B3 : List Nat := [0, 0, 2, 7, 0, 16, 63, 127, 255, 511]
theorem spec_AddClue.tab3 : rtab .any (opsOf Tryz.f24 3) = spec_AddClue.T3 := by kernel_rfl
theorem spec_AddClue.bits3 : waitsOk spec_AddClue.T3.2 spec_AddClue.B3 = true := by kernel_rfl
set_option maxHeartbeats 8000000 in
set_option maxRecDepth 100000 in
theorem spec_AddClue.calls (k : Nat) (A0_0 : Option Addr) (c0_0 : Nat) (l0_0 : List (S37)) (a1_0 : Int) (a1_1 : Int) (a1_2 : Int) (r1 : List (S37)) (r2 : Bool) (w : World) (hr0_0 : Kd.C k37 w A0_0 l0_0.length l0_0) (hc0_0 : l0_0.length ≤ c0_0) (h : spec_AddClue.f k l0_0 a1_0 a1_1 a1_2 = some (r1, r2)) :
 Calls Tryz.prog 24 #[.agg #[.slice A0_0 l0_0.length c0_0], .agg #[.int .i64 a1_0, .int .i64 a1_1, .int .i64 a1_2]] w fun e w' => ∃ v0_ : Value, e = .returned (.tuple #[.agg #[v0_], .bool r2]) ∧ Kd.R k37 37 w' w.heap.size (fun _ => True) v0_ r1 ∧ Below w.heap.size w w' := by
 have hu28 := Tryz.underlying28
 have hu37 := Tryz.underlying37
 have HR0_0 := Aside0.mk hr0_0
 have HC0_0 := Aside0.mk hc0_0
 clear hr0_0 hc0_0
 have HB := Aside0.mk (Below.refl w.heap.size w)
 unfold spec_AddClue.f at h
 have H := h
 clear h
 replace H := bd_ H; obtain ⟨t489, A3, H⟩ := H
 by_cases c4 : t489 = true
 · subst c4
   rw [if_pos rfl] at H
   replace H := bd_ H; obtain ⟨t490, A5, H⟩ := H
   by_cases c6 : t490 = true
   · subst c6
     rw [if_pos rfl] at H
     by_cases c7 : (l0_0.length : Int) = 6
     · obtain ⟨H, c7b0, c7b1⟩ := ep_ c7 H
       clear c7
       simp only [Option.some.injEq, Prod.mk.injEq] at H
       obtain ⟨rfl, rfl⟩ := H
       go_enter Tryz.func24, Tryz.ntmps24
       go_wp2_with (first | (refine bxg_ 2 #[.slice A0_0 l0_0.length c0_0] 28 ?_; intro gb486 hg w8 hbox hb; have BK486 := Aside0.mk (hbox); have GW486 : Aside0 (w.heap.size ≤ gb486) := bs_ hg zB_; have GE486 := GW486; replace HB := Aside0.mk (below_step zB_ hb); clear hb hbox hg) | (refine bxg_ 3 #[.int .i64 a1_0, .int .i64 a1_1, .int .i64 a1_2] 37 ?_; intro gb487 hg w9 hbox hb; have BK487 := Aside0.mk (hbox); have GW487 : Aside0 (w.heap.size ≤ gb487) := bs_ hg z16_7_; have GE487 := GW487; replace HB := Aside0.mk (below_step z16_7_ hb); have NB486_487 := nl_ BK486 z16_1_ hg; have NB487_486 := ns_ NB486_487; replace BK486 := bb_ BK486 z16_1_ hb; clear hb hbox hg) | (refine bxg_ 4 #[.slice none 0 0] 28 ?_; intro gb488 hg w10 hbox hb; have BK488 := Aside0.mk (hbox); have GW488 : Aside0 (w.heap.size ≤ gb488) := bs_ hg z16_4_; have GE488 := GW488; replace HB := Aside0.mk (below_step z16_4_ hb); have NB486_488 := nl_ BK486 z16_1_ hg; have NB488_486 := ns_ NB486_488; replace BK486 := bb_ BK486 z16_1_ hb; have NB487_488 := nl_ BK487 z16_2_ hg; have NB488_487 := ns_ NB487_488; replace BK487 := bb_ BK487 z16_2_ hb; clear hb hbox hg; have hnb11 := NB486_487.out; have hnc11 := NB487_486.out; have hnb12 := NB486_488.out; have hnc12 := NB488_486.out; have hcz13_0 : w10.cell? ⟨gb486, 0, none⟩ = some (.slice A0_0 l0_0.length c0_0) := (blk_cell BK486.out 0).trans rfl; have hfz13_0 := blk_frozen BK486.out 0) | ((with_reducible refine gc_ 81 rfl ?_); refine gL_ 7 Tryz.func81 #[.agg #[.slice A0_0 l0_0.length c0_0]] ?_; (with_reducible refine (spec_pzGood.calls k _ _ l0_0 true _ ?side1 ?side2 A3.out).mono ?_); (case side1 => exact zc17_9_); (case side2 => exact HC0_0.out); rintro e w14 ⟨rfl, hb⟩; refine ⟨_, rfl, ?_⟩; replace BK486 := bb_ BK486 z16_1_ hb; replace BK487 := bb_ BK487 z16_2_ hb; replace BK488 := bb_ BK488 z16_5_ hb; replace HB := Aside0.mk (below_step z16_0_ hb); have hnb15 := NB487_488.out; have hnc15 := NB488_487.out; have hcz16_0 : w14.cell? ⟨gb487, 0, none⟩ = some (.int .i64 a1_0) := (blk_cell BK487.out 0).trans rfl; have hcz16_1 : w14.cell? ⟨gb487, 1, none⟩ = some (.int .i64 a1_1) := (blk_cell BK487.out 1).trans rfl; have hcz16_2 : w14.cell? ⟨gb487, 2, none⟩ = some (.int .i64 a1_2) := (blk_cell BK487.out 2).trans rfl; have hfz16_0 := blk_frozen BK487.out 0; have hfz16_1 := blk_frozen BK487.out 1; have hfz16_2 := blk_frozen BK487.out 2) | (go_at_call 85; (with_reducible refine (spec_pzClue.calls a1_0 a1_1 a1_2 true _ A5.out).mono ?_); rintro e w17 ⟨rfl, hb⟩; replace BK486 := bb_ BK486 z16_1_ hb; replace BK487 := bb_ BK487 z16_2_ hb; replace BK488 := bb_ BK488 z16_5_ hb; replace HB := Aside0.mk (below_step z16_0_ hb); have hcz18_0 : w17.cell? ⟨gb486, 0, none⟩ = some (.slice A0_0 l0_0.length c0_0) := (blk_cell BK486.out 0).trans rfl; have hfz18_0 := blk_frozen BK486.out 0; have hcz19_0 : w17.cell? ⟨gb488, 0, none⟩ = some (.slice none 0 0) := (blk_cell BK488.out 0).trans rfl; have hfz19_0 := blk_frozen BK488.out 0))
       refine bodyPost_ret (results_ct rfl _ _ gb488 28 #[.slice none 0 0] (0, 0) _ rfl z16_14_ Tryz.underlying28 rfl (by kernel_rfl)) rfl ?_
       exact ⟨_, by first | rfl | (simp [errW_none, errW_some] <;> rfl) | (simp [*, errW_none, errW_some] <;> rfl), by first | exact Kd.R_nil _ _ _ _ _ | exact Kd.N_nil _ _ _ _ _ | exact Kd.V_nil _ _ _ _ _ | exact Kd.Q_nil _ _ _ _ _ | exact Kd.S_nil _ _ _ _ _, by repeat (first | (with_reducible first | exact HB.out | apply below_alloc | apply pw_below_drewN | apply below_drew1 | refine below_set ?_ GE486.out | refine below_set ?_ GE487.out | refine below_set ?_ GE488.out) | exact HB.out)⟩
     obtain ⟨H, c7b0, c7b1⟩ := en_ c7 H
     obtain ⟨y491, hy491⟩ : ∃ y_ : List (S37), y_ = (([] : List (S37))) := ⟨_, rfl⟩
     replace H : (if y491.length + l0_0.length < 5864062014805 then ((some (y491 ++ l0_0 : List (S37))).bind fun y494 => ((some (([(⟨a1_0, a1_1, a1_2⟩ : S37)] : List (S37)) : List (S37))).bind fun y497 => (if y494.length + y497.length < 5864062014805 then (some ((y494 ++ y497), true)) else (none)))) else (none)) = some (r1, r2) := by first | (rw [hy491]; with_reducible exact H) | (have H2_ := (Option.bind_some _ _).symm.trans H; rw [hy491]; with_reducible exact H2_) | (have H2_ := (Option.bind_some _ _).symm.trans H; with_reducible exact H2_) | with_reducible exact H | (rw [hy491]; exact H) | exact H
     have Ny491 := Aside0.mk hy491
     clear hy491
     replace H := gd_ H; obtain ⟨c20, H⟩ := H
     have LMc20 := Aside0.mk c20
     clear c20
     obtain ⟨y494, hy494⟩ : ∃ y_ : List (S37), y_ = (y491 ++ l0_0) := ⟨_, rfl⟩
     replace H : ((some (([(⟨a1_0, a1_1, a1_2⟩ : S37)] : List (S37)) : List (S37))).bind fun y497 => (if y494.length + y497.length < 5864062014805 then (some ((y494 ++ y497), true)) else (none))) = some (r1, r2) := by first | (rw [hy494]; with_reducible exact H) | (have H2_ := (Option.bind_some _ _).symm.trans H; rw [hy494]; with_reducible exact H2_) | (have H2_ := (Option.bind_some _ _).symm.trans H; with_reducible exact H2_) | with_reducible exact H | (rw [hy494]; exact H) | exact H
     have Ny494 := Aside0.mk hy494
     clear hy494
     obtain ⟨y497, hy497⟩ : ∃ y_ : List (S37), y_ = (([(⟨a1_0, a1_1, a1_2⟩ : S37)] : List (S37))) := ⟨_, rfl⟩
     replace H : (if y494.length + y497.length < 5864062014805 then (some ((y494 ++ y497), true)) else (none)) = some (r1, r2) := by first | (rw [hy497]; with_reducible exact H) | (have H2_ := (Option.bind_some _ _).symm.trans H; rw [hy497]; with_reducible exact H2_) | (have H2_ := (Option.bind_some _ _).symm.trans H; with_reducible exact H2_) | with_reducible exact H | (rw [hy497]; exact H) | exact H
     have Ny497 := Aside0.mk hy497
     clear hy497
     replace H := gd_ H; obtain ⟨c21, H⟩ := H
     have LMc21 := Aside0.mk c21
     clear c21
     obtain ⟨y500, hy500⟩ : ∃ y_ : List (S37), y_ = (y494 ++ y497) := ⟨_, rfl⟩
     replace H : (some (y500, true)) = some (r1, r2) := by first | (rw [hy500]; with_reducible exact H) | (have H2_ := (Option.bind_some _ _).symm.trans H; rw [hy500]; with_reducible exact H2_) | (have H2_ := (Option.bind_some _ _).symm.trans H; with_reducible exact H2_) | with_reducible exact H | (rw [hy500]; exact H) | exact H
     have Ny500 := Aside0.mk hy500
     clear hy500
     simp only [Option.some.injEq, Prod.mk.injEq] at H
     obtain ⟨rfl, rfl⟩ := H
     go_enter Tryz.func24, Tryz.ntmps24
     try go_wp2_with (first | (refine bxg_ 2 #[.slice A0_0 l0_0.length c0_0] 28 ?_; intro gb486 hg w22 hbox hb; have BK486 := Aside0.mk (hbox); have GW486 : Aside0 (w.heap.size ≤ gb486) := bs_ hg zB_; have GE486 := GW486; replace HB := Aside0.mk (below_step zB_ hb); clear hb hbox hg) | (refine bxg_ 3 #[.int .i64 a1_0, .int .i64 a1_1, .int .i64 a1_2] 37 ?_; intro gb487 hg w23 hbox hb; have BK487 := Aside0.mk (hbox); have GW487 : Aside0 (w.heap.size ≤ gb487) := bs_ hg z16_7_; have GE487 := GW487; replace HB := Aside0.mk (below_step z16_7_ hb); have NB486_487 := nl_ BK486 z16_1_ hg; have NB487_486 := ns_ NB486_487; replace BK486 := bb_ BK486 z16_1_ hb; clear hb hbox hg) | (refine bxg_ 4 #[.slice none 0 0] 28 ?_; intro gb488 hg w24 hbox hb; have BK488 := Aside0.mk (hbox); have GW488 : Aside0 (w.heap.size ≤ gb488) := bs_ hg z16_4_; have GE488 := GW488; replace HB := Aside0.mk (below_step z16_4_ hb); have NB486_488 := nl_ BK486 z16_1_ hg; have NB488_486 := ns_ NB486_488; replace BK486 := bb_ BK486 z16_1_ hb; have NB487_488 := nl_ BK487 z16_2_ hg; have NB488_487 := ns_ NB487_488; replace BK487 := bb_ BK487 z16_2_ hb; clear hb hbox hg; have hnb25 := NB486_487.out; have hnc25 := NB487_486.out; have hnb26 := NB486_488.out; have hnc26 := NB488_486.out; have hcz27_0 : w24.cell? ⟨gb486, 0, none⟩ = some (.slice A0_0 l0_0.length c0_0) := (blk_cell BK486.out 0).trans rfl; have hfz27_0 := blk_frozen BK486.out 0) | ((with_reducible refine gc_ 81 rfl ?_); refine gL_ 7 Tryz.func81 #[.agg #[.slice A0_0 l0_0.length c0_0]] ?_; (with_reducible refine (spec_pzGood.calls k _ _ l0_0 true _ ?side1 ?side2 A3.out).mono ?_); (case side1 => exact zc17_9_); (case side2 => exact HC0_0.out); rintro e w28 ⟨rfl, hb⟩; refine ⟨_, rfl, ?_⟩; replace BK486 := bb_ BK486 z16_1_ hb; replace BK487 := bb_ BK487 z16_2_ hb; replace BK488 := bb_ BK488 z16_5_ hb; replace HB := Aside0.mk (below_step z16_0_ hb); have hnb29 := NB487_488.out; have hnc29 := NB488_487.out; have hcz30_0 : w28.cell? ⟨gb487, 0, none⟩ = some (.int .i64 a1_0) := (blk_cell BK487.out 0).trans rfl; have hcz30_1 : w28.cell? ⟨gb487, 1, none⟩ = some (.int .i64 a1_1) := (blk_cell BK487.out 1).trans rfl; have hcz30_2 : w28.cell? ⟨gb487, 2, none⟩ = some (.int .i64 a1_2) := (blk_cell BK487.out 2).trans rfl; have hfz30_0 := blk_frozen BK487.out 0; have hfz30_1 := blk_frozen BK487.out 1; have hfz30_2 := blk_frozen BK487.out 2) | (go_at_call 85; (with_reducible refine (spec_pzClue.calls a1_0 a1_1 a1_2 true _ A5.out).mono ?_); rintro e w31 ⟨rfl, hb⟩; replace BK486 := bb_ BK486 z16_1_ hb; replace BK487 := bb_ BK487 z16_2_ hb; replace BK488 := bb_ BK488 z16_5_ hb; replace HB := Aside0.mk (below_step z16_0_ hb); have hcz32_0 : w31.cell? ⟨gb486, 0, none⟩ = some (.slice A0_0 l0_0.length c0_0) := (blk_cell BK486.out 0).trans rfl; have hfz32_0 := blk_frozen BK486.out 0))
     replace BK486 := Aside0.mk (blk_drew BK486.out)
     replace BK487 := Aside0.mk (blk_drew BK487.out)
     replace BK488 := Aside0.mk (blk_drew BK488.out)
     replace HB := Aside0.mk (below_drew1 HB.out)
     refine start_ (n := 10) (S := fun w' => w'.cell? ⟨gb486, 0, none⟩ = some (.slice A0_0 l0_0.length c0_0) ∧ w'.cell? ⟨gb487, 0, none⟩ = some (.int .i64 a1_0) ∧ w'.cell? ⟨gb487, 1, none⟩ = some (.int .i64 a1_1) ∧ w'.cell? ⟨gb487, 2, none⟩ = some (.int .i64 a1_2)) (ds := []) #[false, false, false, false, false, false, false, false, false, false] (by kernel_rfl) rfl rfl ⟨(blk_cell BK486.out 0).trans rfl, (blk_cell BK487.out 0).trans rfl, (blk_cell BK487.out 1).trans rfl, (blk_cell BK487.out 2).trans rfl⟩ (fun hHeld => ?_); refine with_tabW spec_AddClue.tab3 spec_AddClue.bits3 (fun HT_ HW_ => ?_)
     generalize w31.drew = w33 at BK486 BK487 BK488 HB hHeld ⊢
     refine pq_ 1 22 ?_
     refine take_ (i := 2) (N := some 23) (v := ?_) (a' := ?_) #[false, true, true, false, false, false, false, false, false, false] rfl rfl (take_ofW HT_.out HW_.out (by kernel_rfl)) (fun _ _ _ h => h) (Or.inl ⟨by rfl, ?_⟩) hHeld ?_ ?_
     rotate_left
     · rintro w' ⟨s0, s1, s2, s3⟩
       go_simp
       with_reducible rfl
     rotate_left
     · simp only [Act.put, List.setIfInBounds_toArray, List.set_cons_zero, List.set_cons_succ, i64_w, i32_w]
       rfl
     refine take_ (i := 4) (N := some 25) (v := ?_) (a' := ?_) #[false, true, true, false, true, false, false, false, false, false] rfl rfl (take_ofW HT_.out HW_.out (by kernel_rfl)) (fun _ _ _ h => h) (Or.inl ⟨by rfl, ?_⟩) hHeld ?_ ?_
     rotate_left
     · rintro w' ⟨s0, s1, s2, s3⟩
       go_simp
       with_reducible rfl
     rotate_left
     · simp only [Act.put, List.setIfInBounds_toArray, List.set_cons_zero, List.set_cons_succ, i64_w, i32_w]
       rfl
     refine join_ (σ := Value × Value × Value) 4 #[true, true, true, true, true, true, false, false, false, false] (fun s_ => [(21, s_.1), (24, s_.2.1), (26, s_.2.2)]) (fun s_ w' => (w'.cell? ⟨gb486, 0, none⟩ = some (.slice A0_0 l0_0.length c0_0) ∧ w'.cell? ⟨gb487, 0, none⟩ = some (.int .i64 a1_0) ∧ w'.cell? ⟨gb487, 1, none⟩ = some (.int .i64 a1_1) ∧ w'.cell? ⟨gb487, 2, none⟩ = some (.int .i64 a1_2)) ∧ (Kd.R k37 37 w' w.heap.size (fun k_ => some k_ ≠ (s_.2.2 : Value).ownBlock ∧ k_ ≠ gb487) s_.2.1 y494) ∧ (Kd.R k37 37 w' w.heap.size (fun k_ => some k_ ≠ (s_.2.1 : Value).ownBlock ∧ k_ ≠ gb487) s_.2.2 y497) ∧ (w'.heap[gb486]? = some (.cells #[.slice A0_0 l0_0.length c0_0] 28 (0, 0))) ∧ (w'.heap[gb487]? = some (.cells #[.int .i64 a1_0, .int .i64 a1_1, .int .i64 a1_2] 37 (0, 0))) ∧ (w'.heap[gb488]? = some (.cells #[.slice none 0 0] 28 (0, 0))) ∧ (Below w.heap.size w w')) ?_ ?_
     rotate_left
     · intro hCont
       refine two_ (i := 0) (j := 5) (Ni := some 21) (Nj := some 26) #[true, true, true, false, true, false, false, false, false, false] #[false, true, true, false, true, true, false, false, false, false] rfl rfl rfl rfl (two_of HT_.out (by kernel_rfl)) (by decide) (by decide) (fun K hK => ?_) (fun K hK => ?_)
       · skip
         refine Kd.R_lit_step k37 _ 37 ?hg (N := 21) ?hd (xs := ([] : List (S37))) (inner := []) (ok := fun _ => True) (okp := fun _ => True) ?hr ?hp (fun _ hk => hk) trivial (Below.refl _ _) (Nat.le_refl _) (by simp) ?_; (case hd => rfl); (case hg => rfl); (case hr => exact zc17_11_); (case hp => exact (Reps.none _ _))
         intro v492 w34 ho35 hb hg_ hnew_
         clear hg_ hnew_
         (first | rw [← Ny491.out] at ho35 | (simp only [Int.reduceToNat] at ho35; rw [← Ny491.out] at ho35))
         have HO493 := Aside0.mk (Kd.R_lower (Kd.R_newB ho35 (g := gb487) (o := .cells #[.int .i64 a1_0, .int .i64 a1_1, .int .i64 a1_2] 37 (0, 0)) z16_2_) (below_size z16_0_))
         replace BK486 := bb_ BK486 z16_1_ hb
         replace BK487 := bb_ BK487 z16_2_ hb
         replace BK488 := bb_ BK488 z16_5_ hb
         replace HB := Aside0.mk (below_step z16_0_ hb)
         clear hb ho35
         refine hK.out _ _ ⟨(blk_cell BK486.out 0).trans rfl, (blk_cell BK487.out 0).trans rfl, (blk_cell BK487.out 1).trans rfl, (blk_cell BK487.out 2).trans rfl⟩ (fun hHeld => ?_)
         clear hK K
         refine norm_ (a' := ?_) ?_ ?_
         rotate_left
         · show Act.put _ (some 21) _ = _
           simp only [Act.put, List.setIfInBounds_toArray, List.set_cons_zero, List.set_cons_succ, i64_w, i32_w]
           rfl
         refine two_ (i := 3) (j := 5) (Ni := some 24) (Nj := some 26) #[true, true, true, true, true, false, false, false, false, false] #[true, true, true, false, true, true, false, false, false, false] rfl rfl rfl rfl (two_of HT_.out (by kernel_rfl)) (by decide) (by decide) (fun K hK => ?_) (fun K hK => ?_)
         · skip
           refine Kd.R_append_rows_step k37 (w0 := w) w.heap.size (by rfl) (.tmp 21) (.tmp 23) 26 37 (.agg #[(.int .i64 0), (.int .i64 0), (.int .i64 0)]) 24 rfl Tryz.underlying26 info37 rfl (by decide) (by omega) v492 y491 l0_0 _ _ _ (fun k_ => k_ ≠ gb487) (fun _ => False) rfl rfl ?aO ?aR (fun _ _ h => h) (fun _ h => h.elim) ?aF ?aB ?aS ?aL ?_
           (case aR => exact zc17_9_)
           (case aB => exact z16_0_)
           (case aF => exact (fun k_ hk => Kd.freshB (g := gb487) (o := .cells #[.int .i64 a1_0, .int .i64 a1_1, .int .i64 a1_2] 37 (0, 0)) z16_2_ k_ hk))
           (case aO => exact (by refine rr_ ?_; exact Kd.R_mono HO493.out (fun _ hk => hk.2)))
           (case aS => exact (below_size z16_0_))
           (case aL => have := LMc20.out; omega)
           intro v495 w36 ho hb hg hat
           rw [← Ny494.out] at ho
           replace BK486 := Aside0.mk (blk_grown (g := gb486) (o := .cells #[.slice A0_0 l0_0.length c0_0] 28 (0, 0)) z16_1_ hg (Kd.R_ne HO493.out BK486.out (by decide)))
           replace BK487 := Aside0.mk (blk_grown (g := gb487) (o := .cells #[.int .i64 a1_0, .int .i64 a1_1, .int .i64 a1_2] 37 (0, 0)) z16_2_ hg (Kd.R_away HO493.out (fun _ hk => hk.2)))
           replace BK488 := Aside0.mk (blk_grown (g := gb488) (o := .cells #[.slice none 0 0] 28 (0, 0)) z16_5_ hg (Kd.R_ne HO493.out BK488.out (by decide)))
           replace HB := Aside0.mk (hb)
           have HO496 := Aside0.mk (ho)
           clear HO493
           clear ho hb hg hat
           refine hK.out _ _ ⟨(blk_cell BK486.out 0).trans rfl, (blk_cell BK487.out 0).trans rfl, (blk_cell BK487.out 1).trans rfl, (blk_cell BK487.out 2).trans rfl⟩ (fun hHeld => ?_)
           clear hK K
           refine norm_ (a' := ?_) ?_ ?_
           rotate_left
           · show Act.put _ (some 24) _ = _
             simp only [Act.put, List.setIfInBounds_toArray, List.set_cons_zero, List.set_cons_succ, i64_w, i32_w]
             rfl
           refine one_ (i := 5) (N := some 26) #[true, true, true, true, true, true, false, false, false, false] rfl rfl (one_of HT_.out (by kernel_rfl)) (by decide) (fun K hK => ?_)
           refine Kd.R_lit_step k37 _ 37 ?hg (N := 26) ?hd (xs := ([(⟨a1_0, a1_1, a1_2⟩ : S37)] : List (S37))) (inner := [.int .i64 a1_0, .int .i64 a1_1, .int .i64 a1_2]) (ok := fun _ => True) (okp := fun _ => True) ?hr ?hp (fun _ hk => hk) trivial (Below.refl _ _) (Nat.le_refl _) (by simp) ?_; (case hd => rfl); (case hg => rfl); (case hr => exact zc17_11_); (case hp => exact zc17_8_)
           intro v498 w37 ho38 hb hg_ hnew_
           clear hg_ hnew_
           (first | rw [← Ny497.out] at ho38 | (simp only [Int.reduceToNat] at ho38; rw [← Ny497.out] at ho38))
           have HO499 := Aside0.mk (Kd.R_lower (Kd.R_newB (Kd.R_new' ho38 (Kd.R_lt z16_20_)) (g := gb487) (o := .cells #[.int .i64 a1_0, .int .i64 a1_1, .int .i64 a1_2] 37 (0, 0)) z16_2_) (below_size z16_0_))
           replace HO496 := Aside0.mk (Kd.R_elder' z16_20_ (Kd.R_base ho38) hb)
           replace BK486 := bb_ BK486 z16_1_ hb
           replace BK487 := bb_ BK487 z16_2_ hb
           replace BK488 := bb_ BK488 z16_5_ hb
           replace HB := Aside0.mk (below_step z16_0_ hb)
           clear hb ho38
           refine hK.out _ _ ⟨(blk_cell BK486.out 0).trans rfl, (blk_cell BK487.out 0).trans rfl, (blk_cell BK487.out 1).trans rfl, (blk_cell BK487.out 2).trans rfl⟩ (fun hHeld => ?_)
           clear hK K
           refine norm_ (a' := ?_) ?_ ?_
           rotate_left
           · show Act.put _ (some 26) _ = _
             simp only [Act.put, List.setIfInBounds_toArray, List.set_cons_zero, List.set_cons_succ, i64_w, i32_w]
             rfl
           exact norm_ zq17_0_ (hCont (v492, v495, v498) _ ⟨hHeld, (by refine rr_ ?_; exact Kd.R_mono HO496.out (fun _ hk => ⟨hk.2, hk.1⟩)), zq17_1_, z16_1_, z16_2_, z16_5_, z16_0_⟩)
         skip
         refine Kd.R_lit_step k37 _ 37 ?hg (N := 26) ?hd (xs := ([(⟨a1_0, a1_1, a1_2⟩ : S37)] : List (S37))) (inner := [.int .i64 a1_0, .int .i64 a1_1, .int .i64 a1_2]) (ok := fun _ => True) (okp := fun _ => True) ?hr ?hp (fun _ hk => hk) trivial (Below.refl _ _) (Nat.le_refl _) (by simp) ?_; (case hd => rfl); (case hg => rfl); (case hr => exact zc17_11_); (case hp => exact zc17_8_)
         intro v498 w36 ho37 hb hg_ hnew_
         clear hg_ hnew_
         (first | rw [← Ny497.out] at ho37 | (simp only [Int.reduceToNat] at ho37; rw [← Ny497.out] at ho37))
         have HO499 := Aside0.mk (Kd.R_lower (Kd.R_newB (Kd.R_new' ho37 (Kd.R_lt zq17_3_)) (g := gb487) (o := .cells #[.int .i64 a1_0, .int .i64 a1_1, .int .i64 a1_2] 37 (0, 0)) z16_2_) (below_size z16_0_))
         replace HO493 := Aside0.mk (Kd.R_elder' zq17_3_ (Kd.R_base ho37) hb)
         replace BK486 := bb_ BK486 z16_1_ hb
         replace BK487 := bb_ BK487 z16_2_ hb
         replace BK488 := bb_ BK488 z16_5_ hb
         replace HB := Aside0.mk (below_step z16_0_ hb)
         clear hb ho37
         refine hK.out _ _ ⟨(blk_cell BK486.out 0).trans rfl, (blk_cell BK487.out 0).trans rfl, (blk_cell BK487.out 1).trans rfl, (blk_cell BK487.out 2).trans rfl⟩ (fun hHeld => ?_)
         clear hK K
         refine norm_ (a' := ?_) ?_ ?_
         rotate_left
         · show Act.put _ (some 26) _ = _
           simp only [Act.put, List.setIfInBounds_toArray, List.set_cons_zero, List.set_cons_succ, i64_w, i32_w]
           rfl
         refine one_ (i := 3) (N := some 24) #[true, true, true, true, true, true, false, false, false, false] rfl rfl (one_of HT_.out (by kernel_rfl)) (by decide) (fun K hK => ?_)
         refine Kd.R_append_rows_step k37 (w0 := w) w.heap.size (by rfl) (.tmp 21) (.tmp 23) 26 37 (.agg #[(.int .i64 0), (.int .i64 0), (.int .i64 0)]) 24 rfl Tryz.underlying26 info37 rfl (by decide) (by omega) v492 y491 l0_0 _ _ _ (fun k_ => some k_ ≠ (v498 : Value).ownBlock ∧ k_ ≠ gb487) (fun _ => False) rfl rfl ?aO ?aR (fun _ _ h => h) (fun _ h => h.elim) ?aF ?aB ?aS ?aL ?_
         (case aR => exact zc17_9_)
         (case aB => exact z16_0_)
         (case aF => exact zc17_10_)
         (case aO => exact (by refine rr_ ?_; exact Kd.R_mono HO493.out (fun _ hk => ⟨hk.2, hk.1.2⟩)))
         (case aS => exact (below_size z16_0_))
         (case aL => have := LMc20.out; omega)
         intro v495 w38 ho hb hg hat
         rw [← Ny494.out] at ho
         replace BK486 := Aside0.mk (blk_grown (g := gb486) (o := .cells #[.slice A0_0 l0_0.length c0_0] 28 (0, 0)) z16_1_ hg (Kd.R_ne HO493.out BK486.out (by decide)))
         replace BK487 := Aside0.mk (blk_grown (g := gb487) (o := .cells #[.int .i64 a1_0, .int .i64 a1_1, .int .i64 a1_2] 37 (0, 0)) z16_2_ hg (Kd.R_away HO493.out (fun _ hk => hk.1.2)))
         replace BK488 := Aside0.mk (blk_grown (g := gb488) (o := .cells #[.slice none 0 0] 28 (0, 0)) z16_5_ hg (Kd.R_ne HO493.out BK488.out (by decide)))
         replace HO499 := Aside0.mk (Kd.R_after (ok := (fun k_ => k_ ≠ gb487)) (by refine rr_ ?_; exact Kd.R_mono HO499.out (fun _ hk => ⟨hk.2, hk.1.2⟩)) hg hat)
         replace HB := Aside0.mk (hb)
         have HO496 := Aside0.mk (ho)
         clear HO493
         clear ho hb hg hat
         refine hK.out _ _ ⟨(blk_cell BK486.out 0).trans rfl, (blk_cell BK487.out 0).trans rfl, (blk_cell BK487.out 1).trans rfl, (blk_cell BK487.out 2).trans rfl⟩ (fun hHeld => ?_)
         clear hK K
         refine norm_ (a' := ?_) ?_ ?_
         rotate_left
         · show Act.put _ (some 24) _ = _
           simp only [Act.put, List.setIfInBounds_toArray, List.set_cons_zero, List.set_cons_succ, i64_w, i32_w]
           rfl
         exact norm_ zq17_0_ (hCont (v492, v495, v498) _ ⟨hHeld, z16_20_, z16_22_, z16_1_, z16_2_, z16_5_, z16_0_⟩)
       skip
       refine Kd.R_lit_step k37 _ 37 ?hg (N := 26) ?hd (xs := ([(⟨a1_0, a1_1, a1_2⟩ : S37)] : List (S37))) (inner := [.int .i64 a1_0, .int .i64 a1_1, .int .i64 a1_2]) (ok := fun _ => True) (okp := fun _ => True) ?hr ?hp (fun _ hk => hk) trivial (Below.refl _ _) (Nat.le_refl _) (by simp) ?_; (case hd => rfl); (case hg => rfl); (case hr => exact zc17_11_); (case hp => exact zc17_8_)
       intro v498 w34 ho35 hb hg_ hnew_
       clear hg_ hnew_
       (first | rw [← Ny497.out] at ho35 | (simp only [Int.reduceToNat] at ho35; rw [← Ny497.out] at ho35))
       have HO499 := Aside0.mk (Kd.R_lower (Kd.R_newB ho35 (g := gb487) (o := .cells #[.int .i64 a1_0, .int .i64 a1_1, .int .i64 a1_2] 37 (0, 0)) z16_2_) (below_size z16_0_))
       replace BK486 := bb_ BK486 z16_1_ hb
       replace BK487 := bb_ BK487 z16_2_ hb
       replace BK488 := bb_ BK488 z16_5_ hb
       replace HB := Aside0.mk (below_step z16_0_ hb)
       clear hb ho35
       refine hK.out _ _ ⟨(blk_cell BK486.out 0).trans rfl, (blk_cell BK487.out 0).trans rfl, (blk_cell BK487.out 1).trans rfl, (blk_cell BK487.out 2).trans rfl⟩ (fun hHeld => ?_)
       clear hK K
       refine norm_ (a' := ?_) ?_ ?_
       rotate_left
       · show Act.put _ (some 26) _ = _
         simp only [Act.put, List.setIfInBounds_toArray, List.set_cons_zero, List.set_cons_succ, i64_w, i32_w]
         rfl
       refine one_ (i := 0) (N := some 21) #[true, true, true, false, true, true, false, false, false, false] rfl rfl (one_of HT_.out (by kernel_rfl)) (by decide) (fun K hK => ?_)
       refine Kd.R_lit_step k37 _ 37 ?hg (N := 21) ?hd (xs := ([] : List (S37))) (inner := []) (ok := fun _ => True) (okp := fun _ => True) ?hr ?hp (fun _ hk => hk) trivial (Below.refl _ _) (Nat.le_refl _) (by simp) ?_; (case hd => rfl); (case hg => rfl); (case hr => exact zc17_11_); (case hp => exact (Reps.none _ _))
       intro v492 w36 ho37 hb hg_ hnew_
       clear hg_ hnew_
       (first | rw [← Ny491.out] at ho37 | (simp only [Int.reduceToNat] at ho37; rw [← Ny491.out] at ho37))
       have HO493 := Aside0.mk (Kd.R_lower (Kd.R_newB (Kd.R_new' ho37 (Kd.R_lt z16_21_)) (g := gb487) (o := .cells #[.int .i64 a1_0, .int .i64 a1_1, .int .i64 a1_2] 37 (0, 0)) z16_2_) (below_size z16_0_))
       replace HO499 := Aside0.mk (Kd.R_elder' z16_21_ (Kd.R_base ho37) hb)
       replace BK486 := bb_ BK486 z16_1_ hb
       replace BK487 := bb_ BK487 z16_2_ hb
       replace BK488 := bb_ BK488 z16_5_ hb
       replace HB := Aside0.mk (below_step z16_0_ hb)
       clear hb ho37
       refine hK.out _ _ ⟨(blk_cell BK486.out 0).trans rfl, (blk_cell BK487.out 0).trans rfl, (blk_cell BK487.out 1).trans rfl, (blk_cell BK487.out 2).trans rfl⟩ (fun hHeld => ?_)
       clear hK K
       refine norm_ (a' := ?_) ?_ ?_
       rotate_left
       · show Act.put _ (some 21) _ = _
         simp only [Act.put, List.setIfInBounds_toArray, List.set_cons_zero, List.set_cons_succ, i64_w, i32_w]
         rfl
       refine one_ (i := 3) (N := some 24) #[true, true, true, true, true, true, false, false, false, false] rfl rfl (one_of HT_.out (by kernel_rfl)) (by decide) (fun K hK => ?_)
       refine Kd.R_append_rows_step k37 (w0 := w) w.heap.size (by rfl) (.tmp 21) (.tmp 23) 26 37 (.agg #[(.int .i64 0), (.int .i64 0), (.int .i64 0)]) 24 rfl Tryz.underlying26 info37 rfl (by decide) (by omega) v492 y491 l0_0 _ _ _ (fun k_ => some k_ ≠ (v498 : Value).ownBlock ∧ k_ ≠ gb487) (fun _ => False) rfl rfl ?aO ?aR (fun _ _ h => h) (fun _ h => h.elim) ?aF ?aB ?aS ?aL ?_
       (case aR => exact zc17_9_)
       (case aB => exact z16_0_)
       (case aF => exact zc17_10_)
       (case aO => exact (by refine rr_ ?_; exact Kd.R_mono HO493.out (fun _ hk => ⟨hk.1.2, hk.2⟩)))
       (case aS => exact (below_size z16_0_))
       (case aL => have := LMc20.out; omega)
       intro v495 w38 ho hb hg hat
       rw [← Ny494.out] at ho
       replace BK486 := Aside0.mk (blk_grown (g := gb486) (o := .cells #[.slice A0_0 l0_0.length c0_0] 28 (0, 0)) z16_1_ hg (Kd.R_ne HO493.out BK486.out (by decide)))
       replace BK487 := Aside0.mk (blk_grown (g := gb487) (o := .cells #[.int .i64 a1_0, .int .i64 a1_1, .int .i64 a1_2] 37 (0, 0)) z16_2_ hg (Kd.R_away HO493.out (fun _ hk => hk.2)))
       replace BK488 := Aside0.mk (blk_grown (g := gb488) (o := .cells #[.slice none 0 0] 28 (0, 0)) z16_5_ hg (Kd.R_ne HO493.out BK488.out (by decide)))
       replace HO499 := Aside0.mk (Kd.R_after (ok := (fun k_ => k_ ≠ gb487)) zq17_1_ hg hat)
       replace HB := Aside0.mk (hb)
       have HO496 := Aside0.mk (ho)
       clear HO493
       clear ho hb hg hat
       refine hK.out _ _ ⟨(blk_cell BK486.out 0).trans rfl, (blk_cell BK487.out 0).trans rfl, (blk_cell BK487.out 1).trans rfl, (blk_cell BK487.out 2).trans rfl⟩ (fun hHeld => ?_)
       clear hK K
       refine norm_ (a' := ?_) ?_ ?_
       rotate_left
       · show Act.put _ (some 24) _ = _
         simp only [Act.put, List.setIfInBounds_toArray, List.set_cons_zero, List.set_cons_succ, i64_w, i32_w]
         rfl
       exact norm_ zq17_0_ (hCont (v492, v495, v498) _ ⟨hHeld, z16_20_, z16_22_, z16_1_, z16_2_, z16_5_, z16_0_⟩)
     rintro ⟨v492, v495, v498⟩ w39 ⟨hS_, h0_, h1_, h2_, h3_, h4_, h5_⟩
     have n0_ : Aside0 (Kd.R k37 37 w39 w.heap.size (fun k_ => some k_ ≠ (v498 : Value).ownBlock ∧ k_ ≠ gb487) v495 y494) := ⟨h0_⟩
     have n1_ : Aside0 (Kd.R k37 37 w39 w.heap.size (fun k_ => some k_ ≠ (v495 : Value).ownBlock ∧ k_ ≠ gb487) v498 y497) := ⟨h1_⟩
     have n2_ : Aside0 (w39.heap[gb486]? = some (.cells #[.slice A0_0 l0_0.length c0_0] 28 (0, 0))) := ⟨h2_⟩
     have n3_ : Aside0 (w39.heap[gb487]? = some (.cells #[.int .i64 a1_0, .int .i64 a1_1, .int .i64 a1_2] 37 (0, 0))) := ⟨h3_⟩
     have n4_ : Aside0 (w39.heap[gb488]? = some (.cells #[.slice none 0 0] 28 (0, 0))) := ⟨h4_⟩
     have n5_ : Aside0 (Below w.heap.size w w39) := ⟨h5_⟩
     clear BK486
     clear BK487
     clear BK488
     clear HB
     clear h0_ h1_ h2_ h3_ h4_ h5_
     have HO496 := n0_
     have HO499 := n1_
     have BK486 := n2_
     have BK487 := n3_
     have BK488 := n4_
     have HB := n5_
     clear n0_ n1_ n2_ n3_ n4_ n5_
     have hHeld : w39.cell? ⟨gb486, 0, none⟩ = some (.slice A0_0 l0_0.length c0_0) ∧ w39.cell? ⟨gb487, 0, none⟩ = some (.int .i64 a1_0) ∧ w39.cell? ⟨gb487, 1, none⟩ = some (.int .i64 a1_1) ∧ w39.cell? ⟨gb487, 2, none⟩ = some (.int .i64 a1_2) := hS_
     obtain ⟨Ao41, co41, eo41⟩ := Kd.R_slice HO499.out
     (first | subst eo41 | (injection eo41 with f1_ f2_ f3_; have f4_ := f1_.symm; have f5_ := f3_.symm; clear f1_ f2_ f3_; subst f4_; subst f5_))
     refine norm_ (a' := ?_) ?_ ?_
     rotate_left
     · simp only [putAll, Act.put, List.setIfInBounds_toArray, List.set_cons_zero, List.set_cons_succ]
       rfl
     refine one_ (i := 6) (N := some 27) #[true, true, true, true, true, true, true, false, false, false] rfl rfl (one_of HT_.out (by kernel_rfl)) (by decide) (fun K hK => ?_)
     refine Kd.R_append_rows_step k37 (w0 := w) w.heap.size (by rfl) (.tmp 24) (.tmp 26) 26 37 (.agg #[(.int .i64 0), (.int .i64 0), (.int .i64 0)]) 24 rfl Tryz.underlying26 info37 rfl (by decide) (by omega) v495 y494 y497 _ _ _ (fun k_ => some k_ ≠ (.slice Ao41 y497.length co41 : Value).ownBlock ∧ k_ ≠ gb487) (fun _ => False) rfl rfl ?aO ?aR (fun _ _ h => h) (fun _ h => h.elim) ?aF ?aB ?aS ?aL ?_
     (case aR => repeat (first | exact (Kd.R_reads' HO499.out).2.2 | (with_reducible refine Kd.C_alloc ?_ _) | (with_reducible refine Kd.C_drewN ?_ _) | (with_reducible refine Kd.C_drew ?_)))
     (case aB => exact z16_0_)
     (case aF => exact zc17_10_)
     (case aO => exact z16_20_)
     (case aS => exact (below_size z16_0_))
     (case aL => have := LMc21.out; omega)
     intro v501 w40 ho hb hg hat
     rw [← Ny500.out] at ho
     replace BK486 := Aside0.mk (blk_grown (g := gb486) (o := .cells #[.slice A0_0 l0_0.length c0_0] 28 (0, 0)) z16_1_ hg (Kd.R_ne HO496.out BK486.out (by decide)))
     replace BK487 := Aside0.mk (blk_grown (g := gb487) (o := .cells #[.int .i64 a1_0, .int .i64 a1_1, .int .i64 a1_2] 37 (0, 0)) z16_2_ hg (Kd.R_away HO496.out (fun _ hk => hk.2)))
     replace BK488 := Aside0.mk (blk_grown (g := gb488) (o := .cells #[.slice none 0 0] 28 (0, 0)) z16_5_ hg (Kd.R_ne HO496.out BK488.out (by decide)))
     replace HO499 := Aside0.mk (Kd.R_after (ok := (fun k_ => k_ ≠ gb487)) z16_22_ hg hat)
     replace HB := Aside0.mk (hb)
     have HO502 := Aside0.mk (ho)
     clear HO496
     clear ho hb hg hat
     obtain ⟨Ao42, co42, eo42⟩ := Kd.R_slice HO502.out
     (first | subst eo42 | (injection eo42 with f1_ f2_ f3_; have f4_ := f1_.symm; have f5_ := f3_.symm; clear f1_ f2_ f3_; subst f4_; subst f5_))
     refine hK.out _ _ ⟨(blk_cell BK486.out 0).trans rfl, (blk_cell BK487.out 0).trans rfl, (blk_cell BK487.out 1).trans rfl, (blk_cell BK487.out 2).trans rfl⟩ (fun hHeld => ?_)
     clear hK K
     refine norm_ (a' := ?_) ?_ ?_
     rotate_left
     · show Act.put _ (some 27) _ = _
       simp only [Act.put, List.setIfInBounds_toArray, List.set_cons_zero, List.set_cons_succ, i64_w, i32_w]
       rfl
     refine pq_ 7 28 ?_
     refine one_ (i := 8) (N := none) #[true, true, true, true, true, true, true, true, true, false] rfl rfl (one_of HT_.out (by kernel_rfl)) (by decide) (fun K hK => ?_)
     have hs43 : w40.cell? ⟨gb488, 0, none⟩ = some (.slice none 0 0) := (blk_cell BK488.out 0).trans rfl
     have hfs43 := blk_frozen BK488.out 0
     have hns43_0 := NB486_488.out
     have hns43_1 := NB487_488.out
     have hms43_0 := NB488_486.out
     have hms43_1 := NB488_487.out
     refine skip_ (w1 := ?_) (by rfl) rfl ?_ ?_
     rotate_left
     · go_simp
       rfl
     refine hK.out _ _ ⟨((cell_far (p := ⟨gb488, _, none⟩) NB486_488.out _).trans (hHeld.1)), ((cell_far (p := ⟨gb488, _, none⟩) NB487_488.out _).trans (hHeld.2.1)), ((cell_far (p := ⟨gb488, _, none⟩) NB487_488.out _).trans (hHeld.2.2.1)), ((cell_far (p := ⟨gb488, _, none⟩) NB487_488.out _).trans (hHeld.2.2.2))⟩ (fun hHeld => ?_)
     clear hK K
     refine pq_ 9 5 ?_
     refine done_ (done_of HT_.out (by kernel_rfl)) ?_
     try go_wp2
     refine bodyPost_ret (results_ct rfl _ _ gb488 28 #[.slice Ao42 y500.length co42] (0, 0) _ rfl z16_14_ Tryz.underlying28 rfl (by kernel_rfl)) rfl ?_
     exact ⟨_, by first | rfl | (simp [errW_none, errW_some] <;> rfl) | (simp [*, errW_none, errW_some] <;> rfl), by refine rr_ ?_; exact Kd.R_mono (Kd.R_far (p := ⟨gb488, 0, none⟩) (Kd.R_types HO502.out BK488.out (by decide)) (fun _ hk => hk.2) (.slice Ao42 y500.length co42)) (fun _ hk => trivial), by repeat (first | (with_reducible first | exact HB.out | apply below_alloc | apply pw_below_drewN | apply below_drew1 | refine below_set ?_ GE486.out | refine below_set ?_ GE487.out | refine below_set ?_ GE488.out) | exact HB.out)⟩
   replace H := bf_ c6 H; obtain ⟨rfl, H⟩ := H
   simp only [Option.some.injEq, Prod.mk.injEq] at H
   obtain ⟨rfl, rfl⟩ := H
   go_enter Tryz.func24, Tryz.ntmps24
   go_wp2_with (first | (refine bxg_ 2 #[.slice A0_0 l0_0.length c0_0] 28 ?_; intro gb486 hg w44 hbox hb; have BK486 := Aside0.mk (hbox); have GW486 : Aside0 (w.heap.size ≤ gb486) := bs_ hg zB_; have GE486 := GW486; replace HB := Aside0.mk (below_step zB_ hb); clear hb hbox hg) | (refine bxg_ 3 #[.int .i64 a1_0, .int .i64 a1_1, .int .i64 a1_2] 37 ?_; intro gb487 hg w45 hbox hb; have BK487 := Aside0.mk (hbox); have GW487 : Aside0 (w.heap.size ≤ gb487) := bs_ hg z16_7_; have GE487 := GW487; replace HB := Aside0.mk (below_step z16_7_ hb); have NB486_487 := nl_ BK486 z16_1_ hg; have NB487_486 := ns_ NB486_487; replace BK486 := bb_ BK486 z16_1_ hb; clear hb hbox hg) | (refine bxg_ 4 #[.slice none 0 0] 28 ?_; intro gb488 hg w46 hbox hb; have BK488 := Aside0.mk (hbox); have GW488 : Aside0 (w.heap.size ≤ gb488) := bs_ hg z16_4_; have GE488 := GW488; replace HB := Aside0.mk (below_step z16_4_ hb); have NB486_488 := nl_ BK486 z16_1_ hg; have NB488_486 := ns_ NB486_488; replace BK486 := bb_ BK486 z16_1_ hb; have NB487_488 := nl_ BK487 z16_2_ hg; have NB488_487 := ns_ NB487_488; replace BK487 := bb_ BK487 z16_2_ hb; clear hb hbox hg; have hnb47 := NB486_487.out; have hnc47 := NB487_486.out; have hnb48 := NB486_488.out; have hnc48 := NB488_486.out; have hcz49_0 : w46.cell? ⟨gb486, 0, none⟩ = some (.slice A0_0 l0_0.length c0_0) := (blk_cell BK486.out 0).trans rfl; have hfz49_0 := blk_frozen BK486.out 0) | ((with_reducible refine gc_ 81 rfl ?_); refine gL_ 7 Tryz.func81 #[.agg #[.slice A0_0 l0_0.length c0_0]] ?_; (with_reducible refine (spec_pzGood.calls k _ _ l0_0 true _ ?side1 ?side2 A3.out).mono ?_); (case side1 => exact zc17_9_); (case side2 => exact HC0_0.out); rintro e w50 ⟨rfl, hb⟩; refine ⟨_, rfl, ?_⟩; replace BK486 := bb_ BK486 z16_1_ hb; replace BK487 := bb_ BK487 z16_2_ hb; replace BK488 := bb_ BK488 z16_5_ hb; replace HB := Aside0.mk (below_step z16_0_ hb); have hnb51 := NB487_488.out; have hnc51 := NB488_487.out; have hcz52_0 : w50.cell? ⟨gb487, 0, none⟩ = some (.int .i64 a1_0) := (blk_cell BK487.out 0).trans rfl; have hcz52_1 : w50.cell? ⟨gb487, 1, none⟩ = some (.int .i64 a1_1) := (blk_cell BK487.out 1).trans rfl; have hcz52_2 : w50.cell? ⟨gb487, 2, none⟩ = some (.int .i64 a1_2) := (blk_cell BK487.out 2).trans rfl; have hfz52_0 := blk_frozen BK487.out 0; have hfz52_1 := blk_frozen BK487.out 1; have hfz52_2 := blk_frozen BK487.out 2) | (go_at_call 85; (with_reducible refine (spec_pzClue.calls a1_0 a1_1 a1_2 false _ A5.out).mono ?_); rintro e w53 ⟨rfl, hb⟩; replace BK486 := bb_ BK486 z16_1_ hb; replace BK487 := bb_ BK487 z16_2_ hb; replace BK488 := bb_ BK488 z16_5_ hb; replace HB := Aside0.mk (below_step z16_0_ hb); have hcz54_0 : w53.cell? ⟨gb488, 0, none⟩ = some (.slice none 0 0) := (blk_cell BK488.out 0).trans rfl; have hfz54_0 := blk_frozen BK488.out 0))
   refine bodyPost_ret (results_ct rfl _ _ gb488 28 #[.slice none 0 0] (0, 0) _ rfl z16_14_ Tryz.underlying28 rfl (by kernel_rfl)) rfl ?_
   exact ⟨_, by first | rfl | (simp [errW_none, errW_some] <;> rfl) | (simp [*, errW_none, errW_some] <;> rfl), by first | exact Kd.R_nil _ _ _ _ _ | exact Kd.N_nil _ _ _ _ _ | exact Kd.V_nil _ _ _ _ _ | exact Kd.Q_nil _ _ _ _ _ | exact Kd.S_nil _ _ _ _ _, by repeat (first | (with_reducible first | exact HB.out | apply below_alloc | apply pw_below_drewN | apply below_drew1 | refine below_set ?_ GE486.out | refine below_set ?_ GE487.out | refine below_set ?_ GE488.out) | exact HB.out)⟩
 replace H := bf_ c4 H; obtain ⟨rfl, H⟩ := H
 simp only [Option.some.injEq, Prod.mk.injEq] at H
 obtain ⟨rfl, rfl⟩ := H
 go_enter Tryz.func24, Tryz.ntmps24
 go_wp2_with (first | (refine bxg_ 2 #[.slice A0_0 l0_0.length c0_0] 28 ?_; intro gb486 hg w55 hbox hb; have BK486 := Aside0.mk (hbox); have GW486 : Aside0 (w.heap.size ≤ gb486) := bs_ hg zB_; have GE486 := GW486; replace HB := Aside0.mk (below_step zB_ hb); clear hb hbox hg) | (refine bxg_ 3 #[.int .i64 a1_0, .int .i64 a1_1, .int .i64 a1_2] 37 ?_; intro gb487 hg w56 hbox hb; have BK487 := Aside0.mk (hbox); have GW487 : Aside0 (w.heap.size ≤ gb487) := bs_ hg z16_7_; have GE487 := GW487; replace HB := Aside0.mk (below_step z16_7_ hb); have NB486_487 := nl_ BK486 z16_1_ hg; have NB487_486 := ns_ NB486_487; replace BK486 := bb_ BK486 z16_1_ hb; clear hb hbox hg) | (refine bxg_ 4 #[.slice none 0 0] 28 ?_; intro gb488 hg w57 hbox hb; have BK488 := Aside0.mk (hbox); have GW488 : Aside0 (w.heap.size ≤ gb488) := bs_ hg z16_4_; have GE488 := GW488; replace HB := Aside0.mk (below_step z16_4_ hb); have NB486_488 := nl_ BK486 z16_1_ hg; have NB488_486 := ns_ NB486_488; replace BK486 := bb_ BK486 z16_1_ hb; have NB487_488 := nl_ BK487 z16_2_ hg; have NB488_487 := ns_ NB487_488; replace BK487 := bb_ BK487 z16_2_ hb; clear hb hbox hg; have hnb58 := NB486_487.out; have hnc58 := NB487_486.out; have hnb59 := NB486_488.out; have hnc59 := NB488_486.out; have hcz60_0 : w57.cell? ⟨gb486, 0, none⟩ = some (.slice A0_0 l0_0.length c0_0) := (blk_cell BK486.out 0).trans rfl; have hfz60_0 := blk_frozen BK486.out 0) | ((with_reducible refine gc_ 81 rfl ?_); refine gL_ 7 Tryz.func81 #[.agg #[.slice A0_0 l0_0.length c0_0]] ?_; (with_reducible refine (spec_pzGood.calls k _ _ l0_0 false _ ?side1 ?side2 A3.out).mono ?_); (case side1 => exact zc17_9_); (case side2 => exact HC0_0.out); rintro e w61 ⟨rfl, hb⟩; refine ⟨_, rfl, ?_⟩; replace BK486 := bb_ BK486 z16_1_ hb; replace BK487 := bb_ BK487 z16_2_ hb; replace BK488 := bb_ BK488 z16_5_ hb; replace HB := Aside0.mk (below_step z16_0_ hb); have hnb62 := NB488_487.out; have hnc62 := NB487_488.out; have hcz63_0 : w61.cell? ⟨gb488, 0, none⟩ = some (.slice none 0 0) := (blk_cell BK488.out 0).trans rfl; have hfz63_0 := blk_frozen BK488.out 0))
 refine bodyPost_ret (results_ct rfl _ _ gb488 28 #[.slice none 0 0] (0, 0) _ rfl z16_14_ Tryz.underlying28 rfl (by kernel_rfl)) rfl ?_
 exact ⟨_, by first | rfl | (simp [errW_none, errW_some] <;> rfl) | (simp [*, errW_none, errW_some] <;> rfl), by first | exact Kd.R_nil _ _ _ _ _ | exact Kd.N_nil _ _ _ _ _ | exact Kd.V_nil _ _ _ _ _ | exact Kd.Q_nil _ _ _ _ _ | exact Kd.S_nil _ _ _ _ _, by repeat (first | (with_reducible first | exact HB.out | apply below_alloc | apply pw_below_drewN | apply below_drew1 | refine below_set ?_ GE486.out | refine below_set ?_ GE487.out | refine below_set ?_ GE488.out) | exact HB.out)⟩

/-! ### spec_DrawDropClue: function 25 -/
def spec_DrawDropClue.f (k : Nat) (l0 : List Int) : Option ((List (S37)) × Int) := (spec_l1Cur_puzzle.f k l0 0 0).bind fun bt505 => ((spec_l1Cur_pick.f l0 bt505.2.1 bt505.2.2 6).bind fun bt510 => ((spec_l1Cur_pick.f l0 bt510.2.1 bt510.2.2 9).bind fun bt513 => (some (bt505.1, wrap64 (bt510.1 - (wrap64 (Int.tdiv bt513.1 8)))))))
theorem spec_DrawDropClue.mono : ∀ a0 k, LeO (spec_DrawDropClue.f k a0) (spec_DrawDropClue.f (k + 1) a0) := by
 intro a0 k
 unfold spec_DrawDropClue.f
 have m1_ := @spec_l1Cur_puzzle.mono
 exact zM_
set_option maxHeartbeats 8000000 in
set_option maxRecDepth 100000 in
theorem spec_DrawDropClue.calls (k : Nat) (A0 : Option Addr) (c0 : Nat) (l0 : List Int) (r1 : List (S37)) (r2 : Int) (w : World) (hr0 : Kd.C (Kd.int .u8) w A0 l0.length l0) (hc0 : l0.length ≤ c0) (h : spec_DrawDropClue.f k l0 = some (r1, r2)) :
 Calls Tryz.prog 25 #[.slice A0 l0.length c0] w fun e w' => ∃ v0_ : Value, e = .returned (.tuple #[.agg #[v0_], .int .i64 r2]) ∧ Kd.R k37 37 w' w.heap.size (fun _ => True) v0_ r1 ∧ Below w.heap.size w w' := by
 have hu28 := Tryz.underlying28
 have hu74 := Tryz.underlying74
 have HR0 := Aside0.mk hr0
 have HC0 := Aside0.mk hc0
 clear hr0 hc0
 have HB := Aside0.mk (Below.refl w.heap.size w)
 unfold spec_DrawDropClue.f at h
 have H := h
 clear h
 replace H := bd_ H; obtain ⟨⟨t505, t508, t509⟩, A2, H⟩ := H
 dsimp only at H
 replace H := bd_ H; obtain ⟨⟨t510, t511, t512⟩, A3, H⟩ := H
 dsimp only at H
 replace H := bd_ H; obtain ⟨⟨t513, t514, t515⟩, A4, H⟩ := H
 dsimp only at H
 simp only [Option.some.injEq, Prod.mk.injEq] at H
 obtain ⟨rfl, rfl⟩ := H
 go_enter Tryz.func25, Tryz.ntmps25
 go_wp2_with (first | (refine bx_ 2 #[.slice none 0 0] 28 ?_; intro gb503 hg w5 hbox hb; have BK503 := Aside0.mk (hbox); have GW503 : Aside0 (w.heap.size ≤ gb503) := bs_ hg zB_; have GE503 := GW503; replace HB := Aside0.mk (below_step zB_ hb); clear hb hbox hg) | (refine bx_ 7 #[.slice A0 l0.length c0, .int .i64 0, .int .u64 0] 74 ?_; intro gb504 hg w6 hbox hb; have NB503_504 := nl_ BK503 z16_17_ hg; have NB504_503 := ns_ NB503_504; replace BK503 := bb_ BK503 z16_17_ hb; have HI504 := Aside0.mk ((⟨_, _, hbox, (by rw [hg]; exact (below_size (by repeat (first | (with_reducible first | exact HB.out | apply below_alloc | apply pw_below_drewN | apply below_drew1 | refine below_set ?_ GE503.out) | exact HB.out))) : w.heap.size ≤ gb504), HR0.out⟩ : IsS74 w w6 gb504 l0 0 0)); replace HB := Aside0.mk (below_step (by repeat (first | (with_reducible first | exact HB.out | apply below_alloc | apply pw_below_drewN | apply below_drew1 | refine below_set ?_ GE503.out) | exact HB.out)) hb); clear hb hbox hg) | ((with_reducible refine gc_ 77 rfl ?_); refine gL_ 9 Tryz.func77 #[.pointer (some ⟨gb504, 0, none⟩)] ?_; (with_reducible refine (spec_l1Cur_puzzle.calls k gb504 l0 0 0 t505 t508 t509 w _ ?side1 ?side2 A2.out).mono ?_); (case side1 => exact zc17_2_); (case side2 => exact zc17_5_); rintro e w7 ⟨v506, rfl, ho0, hi, hb, hk⟩; refine ⟨_, rfl, ?_⟩; replace BK503 := Aside0.mk (KeepBut.blk hk (g' := gb503) (o := .cells #[.slice none 0 0] 28 (0, 0)) z16_17_ NB503_504.out (by simp)); have HO507 := Aside0.mk (Kd.R_lower ho0 (below_size (by repeat (first | (with_reducible first | exact HB.out | apply below_alloc | apply pw_below_drewN | apply below_drew1 | refine below_set ?_ (IsS74.ge HI504.out) | refine below_set ?_ GE503.out) | exact HB.out)))); replace HB := Aside0.mk (hb); replace HI504 := Aside0.mk (hi)) | ((with_reducible refine gc_ 61 rfl ?_); refine gL_ 11 Tryz.func61 #[.pointer (some ⟨gb504, 0, none⟩), .int .i64 6] ?_; (with_reducible refine (spec_l1Cur_pick.calls gb504 l0 t508 t509 6 t510 t511 t512 w _ ?side1 ?side2 A3.out).mono ?_); (case side1 => exact zc17_2_); (case side2 => exact zc17_5_); rintro e w8 ⟨rfl, hi, hb, hk⟩; refine ⟨_, rfl, ?_⟩; replace BK503 := Aside0.mk (KeepBut.blk hk (g' := gb503) (o := .cells #[.slice none 0 0] 28 (0, 0)) z16_17_ NB503_504.out (by simp)); replace HO507 := Aside0.mk (Kd.R_mono (Kd.R_keep (IsS74.apart (show IsS74 w _ gb504 l0 t508 t509 from by repeat (first | (with_reducible first | exact HI504.out | apply IsS74.alloc | apply IsS74.drewN | apply IsS74.drew | apply IsS74.set_1 | apply IsS74.set_2 | refine IsS74.far ?_ NB504_503.out _) | exact HI504.out)) zq17_2_ (by decide)) hk (fun _ h => h.2)) (fun _ h => h.1)); replace HB := Aside0.mk (hb); replace HI504 := Aside0.mk (hi)) | ((with_reducible refine gc_ 61 rfl ?_); refine gL_ 13 Tryz.func61 #[.pointer (some ⟨gb504, 0, none⟩), .int .i64 9] ?_; (with_reducible refine (spec_l1Cur_pick.calls gb504 l0 t511 t512 9 t513 t514 t515 w _ ?side1 ?side2 A4.out).mono ?_); (case side1 => exact zc17_2_); (case side2 => exact zc17_5_); rintro e w9 ⟨rfl, hi, hb, hk⟩; refine ⟨_, rfl, ?_⟩; replace BK503 := Aside0.mk (KeepBut.blk hk (g' := gb503) (o := .cells #[.slice none 0 0] 28 (0, 0)) z16_17_ NB503_504.out (by simp)); replace HO507 := Aside0.mk (Kd.R_mono (Kd.R_keep (IsS74.apart (show IsS74 w _ gb504 l0 t511 t512 from by repeat (first | (with_reducible first | exact HI504.out | apply IsS74.alloc | apply IsS74.drewN | apply IsS74.drew | apply IsS74.set_1 | apply IsS74.set_2 | refine IsS74.far ?_ NB504_503.out _) | exact HI504.out)) zq17_2_ (by decide)) hk (fun _ h => h.2)) (fun _ h => h.1)); replace HB := Aside0.mk (hb); replace HI504 := Aside0.mk (hi); obtain ⟨Ao10, co10, eo10⟩ := Kd.R_slice HO507.out; subst eo10; have hnb11 := NB503_504.out; have hnc11 := NB504_503.out; have hcz12_0 : w9.cell? ⟨gb503, 0, none⟩ = some (.slice none 0 0) := (blk_cell BK503.out 0).trans rfl; have hfz12_0 := blk_frozen BK503.out 0))
 refine bodyPost_ret (results_ct rfl _ _ gb503 28 #[.slice Ao10 t505.length co10] (0, 0) _ rfl (by refine b_ ?_; refine blk_put (cs := #[.slice none 0 0]) ?_ 0 _ rfl; exact b_ BK503.out) Tryz.underlying28 rfl (by kernel_rfl)) rfl ?_
 exact ⟨_, by first | rfl | (simp [errW_none, errW_some] <;> rfl) | (simp [*, errW_none, errW_some] <;> rfl), by refine rr_ ?_; exact Kd.R_mono (Kd.R_far (p := ⟨gb503, 0, none⟩) (Kd.R_types HO507.out BK503.out (by decide)) (fun _ hk => hk.2) (.slice Ao10 t505.length co10)) (fun _ hk => trivial), by repeat (first | (with_reducible first | exact HB.out | apply below_alloc | apply pw_below_drewN | apply below_drew1 | refine below_set ?_ (IsS74.ge HI504.out) | refine below_set ?_ GE503.out) | exact HB.out)⟩

/-! ### impl_DropClue: function 26 -/
def impl_DropClue.f (k : Nat) (l0_0 : List (S37)) (a1 : Int) : Option ((List (S37)) × Bool) := (impl_IsPuzzle.f k l0_0).bind fun t518 => (if t518 = true then ((impl_within.f a1 0 (wrap64 ((l0_0.length : Int) - 1))).bind fun t519 => (if t519 = true then ((impl_dropped.f l0_0 a1).bind fun t520 => (some (t520, true))) else (some (([] : List (S37)), false)))) else (some (([] : List (S37)), false)))
theorem impl_DropClue.mono : ∀ a0 a1 k, LeO (impl_DropClue.f k a0 a1) (impl_DropClue.f (k + 1) a0 a1) := by
 intro a0 a1 k
 unfold impl_DropClue.f
 have m1_ := @impl_IsPuzzle.mono
 exact zM_
set_option maxHeartbeats 8000000 in
set_option maxRecDepth 100000 in
theorem impl_DropClue.calls (k : Nat) (A0_0 : Option Addr) (c0_0 : Nat) (l0_0 : List (S37)) (a1 : Int) (r1 : List (S37)) (r2 : Bool) (w : World) (hr0_0 : Kd.C k37 w A0_0 l0_0.length l0_0) (hc0_0 : l0_0.length ≤ c0_0) (h : impl_DropClue.f k l0_0 a1 = some (r1, r2)) :
 Calls Tryz.prog 26 #[.agg #[.slice A0_0 l0_0.length c0_0], .int .i64 a1] w fun e w' => ∃ v0_ : Value, e = .returned (.tuple #[.agg #[v0_], .bool r2]) ∧ Kd.R k37 37 w' w.heap.size (fun _ => True) v0_ r1 ∧ Below w.heap.size w w' := by
 have hu28 := Tryz.underlying28
 have HR0_0 := Aside0.mk hr0_0
 have HC0_0 := Aside0.mk hc0_0
 clear hr0_0 hc0_0
 have HB := Aside0.mk (Below.refl w.heap.size w)
 unfold impl_DropClue.f at h
 have H := h
 clear h
 replace H := bd_ H; obtain ⟨t518, A3, H⟩ := H
 by_cases c4 : t518 = true
 · subst c4
   rw [if_pos rfl] at H
   replace H := bd_ H; obtain ⟨t519, A5, H⟩ := H
   by_cases c6 : t519 = true
   · subst c6
     rw [if_pos rfl] at H
     replace H := bd_ H; obtain ⟨t520, A7, H⟩ := H
     simp only [Option.some.injEq, Prod.mk.injEq] at H
     obtain ⟨rfl, rfl⟩ := H
     go_enter Tryz.func26, Tryz.ntmps26
     go_wp2_with (first | (refine bxg_ 2 #[.slice A0_0 l0_0.length c0_0] 28 ?_; intro gb516 hg w8 hbox hb; have BK516 := Aside0.mk (hbox); have GW516 : Aside0 (w.heap.size ≤ gb516) := bs_ hg zB_; have GE516 := GW516; replace HB := Aside0.mk (below_step zB_ hb); clear hb hbox hg) | (refine bxg_ 4 #[.slice none 0 0] 28 ?_; intro gb517 hg w9 hbox hb; have BK517 := Aside0.mk (hbox); have GW517 : Aside0 (w.heap.size ≤ gb517) := bs_ hg z16_10_; have GE517 := GW517; replace HB := Aside0.mk (below_step z16_10_ hb); have NB516_517 := nl_ BK516 z16_8_ hg; have NB517_516 := ns_ NB516_517; replace BK516 := bb_ BK516 z16_8_ hb; clear hb hbox hg; have hnb10 := NB516_517.out; have hnc10 := NB517_516.out; have hcz11_0 : w9.cell? ⟨gb516, 0, none⟩ = some (.slice A0_0 l0_0.length c0_0) := (blk_cell BK516.out 0).trans rfl; have hfz11_0 := blk_frozen BK516.out 0) | ((with_reducible refine gc_ 14 rfl ?_); refine gL_ 7 Tryz.func14 #[.agg #[.slice A0_0 l0_0.length c0_0]] ?_; (with_reducible refine (impl_IsPuzzle.calls k _ _ l0_0 true _ ?side1 ?side2 A3.out).mono ?_); (case side1 => exact zc17_9_); (case side2 => exact HC0_0.out); rintro e w12 ⟨rfl, hb⟩; refine ⟨_, rfl, ?_⟩; replace BK516 := bb_ BK516 z16_8_ hb; replace BK517 := bb_ BK517 z16_18_ hb; replace HB := Aside0.mk (below_step z16_12_ hb); have hcz13_0 : w12.cell? ⟨gb516, 0, none⟩ = some (.slice A0_0 l0_0.length c0_0) := (blk_cell BK516.out 0).trans rfl; have hfz13_0 := blk_frozen BK516.out 0) | (go_at_call 63; (with_reducible refine (impl_within.calls a1 0 (wrap64 ((l0_0.length : Int) - 1)) true _ A5.out).mono ?_); rintro e w' ⟨rfl, ⟨nd, rfl⟩⟩; (try (rw [drewN_self w12]; generalize hq_ : World.drewN w12 _ = w12; have n0_ : Aside0 (w12.heap[gb516]? = some (.cells #[.slice A0_0 l0_0.length c0_0] 28 (0, 0))) := ⟨by rw [← hq_]; exact z16_8_⟩; have n1_ : Aside0 (w12.heap[gb517]? = some (.cells #[.slice none 0 0] 28 (0, 0))) := ⟨by rw [← hq_]; exact z16_18_⟩; have n2_ : Aside0 (Below w.heap.size w w12) := ⟨by rw [← hq_]; exact z16_12_⟩; clear BK516 BK517 HB hq_; have BK516 := n0_; have BK517 := n1_; have HB := n2_; clear n0_ n1_ n2_)); have hcz14_0 : w12.cell? ⟨gb516, 0, none⟩ = some (.slice A0_0 l0_0.length c0_0) := (blk_cell BK516.out 0).trans rfl; have hfz14_0 := blk_frozen BK516.out 0) | ((with_reducible refine gc_ 79 rfl ?_); refine gL_ 22 Tryz.func79 #[.slice A0_0 l0_0.length c0_0, .int .i64 a1] ?_; (with_reducible refine (impl_dropped.calls _ _ l0_0 a1 t520 _ ?side1 ?side2 A7.out).mono ?_); (case side1 => exact zc17_9_); (case side2 => exact HC0_0.out); rintro e w15 ⟨v521, rfl, ho0, hb⟩; refine ⟨_, rfl, ?_⟩; have HO522 := Aside0.mk (Kd.R_lower ho0 (below_size z16_12_)); replace BK516 := bb_ BK516 z16_8_ hb; replace BK517 := bb_ BK517 z16_18_ hb; replace HB := Aside0.mk (below_step z16_12_ hb); obtain ⟨Ao16, co16, eo16⟩ := Kd.R_slice HO522.out; subst eo16; have hcz17_0 : w15.cell? ⟨gb517, 0, none⟩ = some (.slice none 0 0) := (blk_cell BK517.out 0).trans rfl; have hfz17_0 := blk_frozen BK517.out 0))
     refine bodyPost_ret (results_ct rfl _ _ gb517 28 #[.slice Ao16 t520.length co16] (0, 0) _ rfl z16_15_ Tryz.underlying28 rfl (by kernel_rfl)) rfl ?_
     exact ⟨_, by first | rfl | (simp [errW_none, errW_some] <;> rfl) | (simp [*, errW_none, errW_some] <;> rfl), by refine rr_ ?_; exact Kd.R_mono (Kd.R_far (p := ⟨gb517, 0, none⟩) (Kd.R_types HO522.out BK517.out (by decide)) (fun _ hk => hk.2) (.slice Ao16 t520.length co16)) (fun _ hk => trivial), by repeat (first | (with_reducible first | exact HB.out | apply below_alloc | apply pw_below_drewN | apply below_drew1 | refine below_set ?_ GE516.out | refine below_set ?_ GE517.out) | exact HB.out)⟩
   replace H := bf_ c6 H; obtain ⟨rfl, H⟩ := H
   simp only [Option.some.injEq, Prod.mk.injEq] at H
   obtain ⟨rfl, rfl⟩ := H
   go_enter Tryz.func26, Tryz.ntmps26
   go_wp2_with (first | (refine bxg_ 2 #[.slice A0_0 l0_0.length c0_0] 28 ?_; intro gb516 hg w18 hbox hb; have BK516 := Aside0.mk (hbox); have GW516 : Aside0 (w.heap.size ≤ gb516) := bs_ hg zB_; have GE516 := GW516; replace HB := Aside0.mk (below_step zB_ hb); clear hb hbox hg) | (refine bxg_ 4 #[.slice none 0 0] 28 ?_; intro gb517 hg w19 hbox hb; have BK517 := Aside0.mk (hbox); have GW517 : Aside0 (w.heap.size ≤ gb517) := bs_ hg z16_10_; have GE517 := GW517; replace HB := Aside0.mk (below_step z16_10_ hb); have NB516_517 := nl_ BK516 z16_8_ hg; have NB517_516 := ns_ NB516_517; replace BK516 := bb_ BK516 z16_8_ hb; clear hb hbox hg; have hnb20 := NB516_517.out; have hnc20 := NB517_516.out; have hcz21_0 : w19.cell? ⟨gb516, 0, none⟩ = some (.slice A0_0 l0_0.length c0_0) := (blk_cell BK516.out 0).trans rfl; have hfz21_0 := blk_frozen BK516.out 0) | ((with_reducible refine gc_ 14 rfl ?_); refine gL_ 7 Tryz.func14 #[.agg #[.slice A0_0 l0_0.length c0_0]] ?_; (with_reducible refine (impl_IsPuzzle.calls k _ _ l0_0 true _ ?side1 ?side2 A3.out).mono ?_); (case side1 => exact zc17_9_); (case side2 => exact HC0_0.out); rintro e w22 ⟨rfl, hb⟩; refine ⟨_, rfl, ?_⟩; replace BK516 := bb_ BK516 z16_8_ hb; replace BK517 := bb_ BK517 z16_18_ hb; replace HB := Aside0.mk (below_step z16_12_ hb); have hcz23_0 : w22.cell? ⟨gb516, 0, none⟩ = some (.slice A0_0 l0_0.length c0_0) := (blk_cell BK516.out 0).trans rfl; have hfz23_0 := blk_frozen BK516.out 0) | (go_at_call 63; (with_reducible refine (impl_within.calls a1 0 (wrap64 ((l0_0.length : Int) - 1)) false _ A5.out).mono ?_); rintro e w' ⟨rfl, ⟨nd, rfl⟩⟩; (try (rw [drewN_self w22]; generalize hq_ : World.drewN w22 _ = w22; have n0_ : Aside0 (w22.heap[gb516]? = some (.cells #[.slice A0_0 l0_0.length c0_0] 28 (0, 0))) := ⟨by rw [← hq_]; exact z16_8_⟩; have n1_ : Aside0 (w22.heap[gb517]? = some (.cells #[.slice none 0 0] 28 (0, 0))) := ⟨by rw [← hq_]; exact z16_18_⟩; have n2_ : Aside0 (Below w.heap.size w w22) := ⟨by rw [← hq_]; exact z16_12_⟩; clear BK516 BK517 HB hq_; have BK516 := n0_; have BK517 := n1_; have HB := n2_; clear n0_ n1_ n2_)); have hcz24_0 : w22.cell? ⟨gb517, 0, none⟩ = some (.slice none 0 0) := (blk_cell BK517.out 0).trans rfl; have hfz24_0 := blk_frozen BK517.out 0))
   refine bodyPost_ret (results_ct rfl _ _ gb517 28 #[.slice none 0 0] (0, 0) _ rfl z16_15_ Tryz.underlying28 rfl (by kernel_rfl)) rfl ?_
   exact ⟨_, by first | rfl | (simp [errW_none, errW_some] <;> rfl) | (simp [*, errW_none, errW_some] <;> rfl), by first | exact Kd.R_nil _ _ _ _ _ | exact Kd.N_nil _ _ _ _ _ | exact Kd.V_nil _ _ _ _ _ | exact Kd.Q_nil _ _ _ _ _ | exact Kd.S_nil _ _ _ _ _, by repeat (first | (with_reducible first | exact HB.out | apply below_alloc | apply pw_below_drewN | apply below_drew1 | refine below_set ?_ GE516.out | refine below_set ?_ GE517.out) | exact HB.out)⟩
 replace H := bf_ c4 H; obtain ⟨rfl, H⟩ := H
 simp only [Option.some.injEq, Prod.mk.injEq] at H
 obtain ⟨rfl, rfl⟩ := H
 go_enter Tryz.func26, Tryz.ntmps26
 go_wp2_with (first | (refine bxg_ 2 #[.slice A0_0 l0_0.length c0_0] 28 ?_; intro gb516 hg w25 hbox hb; have BK516 := Aside0.mk (hbox); have GW516 : Aside0 (w.heap.size ≤ gb516) := bs_ hg zB_; have GE516 := GW516; replace HB := Aside0.mk (below_step zB_ hb); clear hb hbox hg) | (refine bxg_ 4 #[.slice none 0 0] 28 ?_; intro gb517 hg w26 hbox hb; have BK517 := Aside0.mk (hbox); have GW517 : Aside0 (w.heap.size ≤ gb517) := bs_ hg z16_10_; have GE517 := GW517; replace HB := Aside0.mk (below_step z16_10_ hb); have NB516_517 := nl_ BK516 z16_8_ hg; have NB517_516 := ns_ NB516_517; replace BK516 := bb_ BK516 z16_8_ hb; clear hb hbox hg; have hnb27 := NB516_517.out; have hnc27 := NB517_516.out; have hcz28_0 : w26.cell? ⟨gb516, 0, none⟩ = some (.slice A0_0 l0_0.length c0_0) := (blk_cell BK516.out 0).trans rfl; have hfz28_0 := blk_frozen BK516.out 0) | ((with_reducible refine gc_ 14 rfl ?_); refine gL_ 7 Tryz.func14 #[.agg #[.slice A0_0 l0_0.length c0_0]] ?_; (with_reducible refine (impl_IsPuzzle.calls k _ _ l0_0 false _ ?side1 ?side2 A3.out).mono ?_); (case side1 => exact zc17_9_); (case side2 => exact HC0_0.out); rintro e w29 ⟨rfl, hb⟩; refine ⟨_, rfl, ?_⟩; replace BK516 := bb_ BK516 z16_8_ hb; replace BK517 := bb_ BK517 z16_18_ hb; replace HB := Aside0.mk (below_step z16_12_ hb); have hcz30_0 : w29.cell? ⟨gb517, 0, none⟩ = some (.slice none 0 0) := (blk_cell BK517.out 0).trans rfl; have hfz30_0 := blk_frozen BK517.out 0))
 refine bodyPost_ret (results_ct rfl _ _ gb517 28 #[.slice none 0 0] (0, 0) _ rfl z16_15_ Tryz.underlying28 rfl (by kernel_rfl)) rfl ?_
 exact ⟨_, by first | rfl | (simp [errW_none, errW_some] <;> rfl) | (simp [*, errW_none, errW_some] <;> rfl), by first | exact Kd.R_nil _ _ _ _ _ | exact Kd.N_nil _ _ _ _ _ | exact Kd.V_nil _ _ _ _ _ | exact Kd.Q_nil _ _ _ _ _ | exact Kd.S_nil _ _ _ _ _, by repeat (first | (with_reducible first | exact HB.out | apply below_alloc | apply pw_below_drewN | apply below_drew1 | refine below_set ?_ GE516.out | refine below_set ?_ GE517.out) | exact HB.out)⟩

/-! ### spec_DropClue: function 27 -/
def spec_DropClue.f (k : Nat) (l0_0 : List (S37)) (a1 : Int) : Option ((List (S37)) × Bool) := (spec_pzGood.f k l0_0).bind fun t525 => (if t525 = true then ((spec_l1In.f a1 0 (wrap64 ((l0_0.length : Int) - 1))).bind fun t526 => (if t526 = true then ((spec_pzWithout.f l0_0 a1).bind fun t527 => (some (t527, true))) else (some (([] : List (S37)), false)))) else (some (([] : List (S37)), false)))
theorem spec_DropClue.mono : ∀ a0 a1 k, LeO (spec_DropClue.f k a0 a1) (spec_DropClue.f (k + 1) a0 a1) := by
 intro a0 a1 k
 unfold spec_DropClue.f
 have m1_ := @spec_pzGood.mono
 exact zM_
set_option maxHeartbeats 8000000 in
set_option maxRecDepth 100000 in
theorem spec_DropClue.calls (k : Nat) (A0_0 : Option Addr) (c0_0 : Nat) (l0_0 : List (S37)) (a1 : Int) (r1 : List (S37)) (r2 : Bool) (w : World) (hr0_0 : Kd.C k37 w A0_0 l0_0.length l0_0) (hc0_0 : l0_0.length ≤ c0_0) (h : spec_DropClue.f k l0_0 a1 = some (r1, r2)) :
 Calls Tryz.prog 27 #[.agg #[.slice A0_0 l0_0.length c0_0], .int .i64 a1] w fun e w' => ∃ v0_ : Value, e = .returned (.tuple #[.agg #[v0_], .bool r2]) ∧ Kd.R k37 37 w' w.heap.size (fun _ => True) v0_ r1 ∧ Below w.heap.size w w' := by
 have hu28 := Tryz.underlying28
 have HR0_0 := Aside0.mk hr0_0
 have HC0_0 := Aside0.mk hc0_0
 clear hr0_0 hc0_0
 have HB := Aside0.mk (Below.refl w.heap.size w)
 unfold spec_DropClue.f at h
 have H := h
 clear h
 replace H := bd_ H; obtain ⟨t525, A3, H⟩ := H
 by_cases c4 : t525 = true
 · subst c4
   rw [if_pos rfl] at H
   replace H := bd_ H; obtain ⟨t526, A5, H⟩ := H
   by_cases c6 : t526 = true
   · subst c6
     rw [if_pos rfl] at H
     replace H := bd_ H; obtain ⟨t527, A7, H⟩ := H
     simp only [Option.some.injEq, Prod.mk.injEq] at H
     obtain ⟨rfl, rfl⟩ := H
     go_enter Tryz.func27, Tryz.ntmps27
     go_wp2_with (first | (refine bxg_ 2 #[.slice A0_0 l0_0.length c0_0] 28 ?_; intro gb523 hg w8 hbox hb; have BK523 := Aside0.mk (hbox); have GW523 : Aside0 (w.heap.size ≤ gb523) := bs_ hg zB_; have GE523 := GW523; replace HB := Aside0.mk (below_step zB_ hb); clear hb hbox hg) | (refine bxg_ 4 #[.slice none 0 0] 28 ?_; intro gb524 hg w9 hbox hb; have BK524 := Aside0.mk (hbox); have GW524 : Aside0 (w.heap.size ≤ gb524) := bs_ hg z16_11_; have GE524 := GW524; replace HB := Aside0.mk (below_step z16_11_ hb); have NB523_524 := nl_ BK523 z16_9_ hg; have NB524_523 := ns_ NB523_524; replace BK523 := bb_ BK523 z16_9_ hb; clear hb hbox hg; have hnb10 := NB523_524.out; have hnc10 := NB524_523.out; have hcz11_0 : w9.cell? ⟨gb523, 0, none⟩ = some (.slice A0_0 l0_0.length c0_0) := (blk_cell BK523.out 0).trans rfl; have hfz11_0 := blk_frozen BK523.out 0) | ((with_reducible refine gc_ 81 rfl ?_); refine gL_ 7 Tryz.func81 #[.agg #[.slice A0_0 l0_0.length c0_0]] ?_; (with_reducible refine (spec_pzGood.calls k _ _ l0_0 true _ ?side1 ?side2 A3.out).mono ?_); (case side1 => exact zc17_9_); (case side2 => exact HC0_0.out); rintro e w12 ⟨rfl, hb⟩; refine ⟨_, rfl, ?_⟩; replace BK523 := bb_ BK523 z16_9_ hb; replace BK524 := bb_ BK524 z16_19_ hb; replace HB := Aside0.mk (below_step z16_13_ hb); have hcz13_0 : w12.cell? ⟨gb523, 0, none⟩ = some (.slice A0_0 l0_0.length c0_0) := (blk_cell BK523.out 0).trans rfl; have hfz13_0 := blk_frozen BK523.out 0) | (go_at_call 67; (with_reducible refine (spec_l1In.calls a1 0 (wrap64 ((l0_0.length : Int) - 1)) true _ A5.out).mono ?_); rintro e w' ⟨rfl, ⟨nd, rfl⟩⟩; (try (rw [drewN_self w12]; generalize hq_ : World.drewN w12 _ = w12; have n0_ : Aside0 (w12.heap[gb523]? = some (.cells #[.slice A0_0 l0_0.length c0_0] 28 (0, 0))) := ⟨by rw [← hq_]; exact z16_9_⟩; have n1_ : Aside0 (w12.heap[gb524]? = some (.cells #[.slice none 0 0] 28 (0, 0))) := ⟨by rw [← hq_]; exact z16_19_⟩; have n2_ : Aside0 (Below w.heap.size w w12) := ⟨by rw [← hq_]; exact z16_13_⟩; clear BK523 BK524 HB hq_; have BK523 := n0_; have BK524 := n1_; have HB := n2_; clear n0_ n1_ n2_)); have hcz14_0 : w12.cell? ⟨gb523, 0, none⟩ = some (.slice A0_0 l0_0.length c0_0) := (blk_cell BK523.out 0).trans rfl; have hfz14_0 := blk_frozen BK523.out 0) | ((with_reducible refine gc_ 83 rfl ?_); refine gL_ 22 Tryz.func83 #[.slice A0_0 l0_0.length c0_0, .int .i64 a1] ?_; (with_reducible refine (spec_pzWithout.calls _ _ l0_0 a1 t527 _ ?side1 ?side2 A7.out).mono ?_); (case side1 => exact zc17_9_); (case side2 => exact HC0_0.out); rintro e w15 ⟨v528, rfl, ho0, hb⟩; refine ⟨_, rfl, ?_⟩; have HO529 := Aside0.mk (Kd.R_lower ho0 (below_size z16_13_)); replace BK523 := bb_ BK523 z16_9_ hb; replace BK524 := bb_ BK524 z16_19_ hb; replace HB := Aside0.mk (below_step z16_13_ hb); obtain ⟨Ao16, co16, eo16⟩ := Kd.R_slice HO529.out; subst eo16; have hcz17_0 : w15.cell? ⟨gb524, 0, none⟩ = some (.slice none 0 0) := (blk_cell BK524.out 0).trans rfl; have hfz17_0 := blk_frozen BK524.out 0))
     refine bodyPost_ret (results_ct rfl _ _ gb524 28 #[.slice Ao16 t527.length co16] (0, 0) _ rfl z16_16_ Tryz.underlying28 rfl (by kernel_rfl)) rfl ?_
     exact ⟨_, by first | rfl | (simp [errW_none, errW_some] <;> rfl) | (simp [*, errW_none, errW_some] <;> rfl), by refine rr_ ?_; exact Kd.R_mono (Kd.R_far (p := ⟨gb524, 0, none⟩) (Kd.R_types HO529.out BK524.out (by decide)) (fun _ hk => hk.2) (.slice Ao16 t527.length co16)) (fun _ hk => trivial), by repeat (first | (with_reducible first | exact HB.out | apply below_alloc | apply pw_below_drewN | apply below_drew1 | refine below_set ?_ GE523.out | refine below_set ?_ GE524.out) | exact HB.out)⟩
   replace H := bf_ c6 H; obtain ⟨rfl, H⟩ := H
   simp only [Option.some.injEq, Prod.mk.injEq] at H
   obtain ⟨rfl, rfl⟩ := H
   go_enter Tryz.func27, Tryz.ntmps27
   go_wp2_with (first | (refine bxg_ 2 #[.slice A0_0 l0_0.length c0_0] 28 ?_; intro gb523 hg w18 hbox hb; have BK523 := Aside0.mk (hbox); have GW523 : Aside0 (w.heap.size ≤ gb523) := bs_ hg zB_; have GE523 := GW523; replace HB := Aside0.mk (below_step zB_ hb); clear hb hbox hg) | (refine bxg_ 4 #[.slice none 0 0] 28 ?_; intro gb524 hg w19 hbox hb; have BK524 := Aside0.mk (hbox); have GW524 : Aside0 (w.heap.size ≤ gb524) := bs_ hg z16_11_; have GE524 := GW524; replace HB := Aside0.mk (below_step z16_11_ hb); have NB523_524 := nl_ BK523 z16_9_ hg; have NB524_523 := ns_ NB523_524; replace BK523 := bb_ BK523 z16_9_ hb; clear hb hbox hg; have hnb20 := NB523_524.out; have hnc20 := NB524_523.out; have hcz21_0 : w19.cell? ⟨gb523, 0, none⟩ = some (.slice A0_0 l0_0.length c0_0) := (blk_cell BK523.out 0).trans rfl; have hfz21_0 := blk_frozen BK523.out 0) | ((with_reducible refine gc_ 81 rfl ?_); refine gL_ 7 Tryz.func81 #[.agg #[.slice A0_0 l0_0.length c0_0]] ?_; (with_reducible refine (spec_pzGood.calls k _ _ l0_0 true _ ?side1 ?side2 A3.out).mono ?_); (case side1 => exact zc17_9_); (case side2 => exact HC0_0.out); rintro e w22 ⟨rfl, hb⟩; refine ⟨_, rfl, ?_⟩; replace BK523 := bb_ BK523 z16_9_ hb; replace BK524 := bb_ BK524 z16_19_ hb; replace HB := Aside0.mk (below_step z16_13_ hb); have hcz23_0 : w22.cell? ⟨gb523, 0, none⟩ = some (.slice A0_0 l0_0.length c0_0) := (blk_cell BK523.out 0).trans rfl; have hfz23_0 := blk_frozen BK523.out 0) | (go_at_call 67; (with_reducible refine (spec_l1In.calls a1 0 (wrap64 ((l0_0.length : Int) - 1)) false _ A5.out).mono ?_); rintro e w' ⟨rfl, ⟨nd, rfl⟩⟩; (try (rw [drewN_self w22]; generalize hq_ : World.drewN w22 _ = w22; have n0_ : Aside0 (w22.heap[gb523]? = some (.cells #[.slice A0_0 l0_0.length c0_0] 28 (0, 0))) := ⟨by rw [← hq_]; exact z16_9_⟩; have n1_ : Aside0 (w22.heap[gb524]? = some (.cells #[.slice none 0 0] 28 (0, 0))) := ⟨by rw [← hq_]; exact z16_19_⟩; have n2_ : Aside0 (Below w.heap.size w w22) := ⟨by rw [← hq_]; exact z16_13_⟩; clear BK523 BK524 HB hq_; have BK523 := n0_; have BK524 := n1_; have HB := n2_; clear n0_ n1_ n2_)); have hcz24_0 : w22.cell? ⟨gb524, 0, none⟩ = some (.slice none 0 0) := (blk_cell BK524.out 0).trans rfl; have hfz24_0 := blk_frozen BK524.out 0))
   refine bodyPost_ret (results_ct rfl _ _ gb524 28 #[.slice none 0 0] (0, 0) _ rfl z16_16_ Tryz.underlying28 rfl (by kernel_rfl)) rfl ?_
   exact ⟨_, by first | rfl | (simp [errW_none, errW_some] <;> rfl) | (simp [*, errW_none, errW_some] <;> rfl), by first | exact Kd.R_nil _ _ _ _ _ | exact Kd.N_nil _ _ _ _ _ | exact Kd.V_nil _ _ _ _ _ | exact Kd.Q_nil _ _ _ _ _ | exact Kd.S_nil _ _ _ _ _, by repeat (first | (with_reducible first | exact HB.out | apply below_alloc | apply pw_below_drewN | apply below_drew1 | refine below_set ?_ GE523.out | refine below_set ?_ GE524.out) | exact HB.out)⟩
 replace H := bf_ c4 H; obtain ⟨rfl, H⟩ := H
 simp only [Option.some.injEq, Prod.mk.injEq] at H
 obtain ⟨rfl, rfl⟩ := H
 go_enter Tryz.func27, Tryz.ntmps27
 go_wp2_with (first | (refine bxg_ 2 #[.slice A0_0 l0_0.length c0_0] 28 ?_; intro gb523 hg w25 hbox hb; have BK523 := Aside0.mk (hbox); have GW523 : Aside0 (w.heap.size ≤ gb523) := bs_ hg zB_; have GE523 := GW523; replace HB := Aside0.mk (below_step zB_ hb); clear hb hbox hg) | (refine bxg_ 4 #[.slice none 0 0] 28 ?_; intro gb524 hg w26 hbox hb; have BK524 := Aside0.mk (hbox); have GW524 : Aside0 (w.heap.size ≤ gb524) := bs_ hg z16_11_; have GE524 := GW524; replace HB := Aside0.mk (below_step z16_11_ hb); have NB523_524 := nl_ BK523 z16_9_ hg; have NB524_523 := ns_ NB523_524; replace BK523 := bb_ BK523 z16_9_ hb; clear hb hbox hg; have hnb27 := NB523_524.out; have hnc27 := NB524_523.out; have hcz28_0 : w26.cell? ⟨gb523, 0, none⟩ = some (.slice A0_0 l0_0.length c0_0) := (blk_cell BK523.out 0).trans rfl; have hfz28_0 := blk_frozen BK523.out 0) | ((with_reducible refine gc_ 81 rfl ?_); refine gL_ 7 Tryz.func81 #[.agg #[.slice A0_0 l0_0.length c0_0]] ?_; (with_reducible refine (spec_pzGood.calls k _ _ l0_0 false _ ?side1 ?side2 A3.out).mono ?_); (case side1 => exact zc17_9_); (case side2 => exact HC0_0.out); rintro e w29 ⟨rfl, hb⟩; refine ⟨_, rfl, ?_⟩; replace BK523 := bb_ BK523 z16_9_ hb; replace BK524 := bb_ BK524 z16_19_ hb; replace HB := Aside0.mk (below_step z16_13_ hb); have hcz30_0 : w29.cell? ⟨gb524, 0, none⟩ = some (.slice none 0 0) := (blk_cell BK524.out 0).trans rfl; have hfz30_0 := blk_frozen BK524.out 0))
 refine bodyPost_ret (results_ct rfl _ _ gb524 28 #[.slice none 0 0] (0, 0) _ rfl z16_16_ Tryz.underlying28 rfl (by kernel_rfl)) rfl ?_
 exact ⟨_, by first | rfl | (simp [errW_none, errW_some] <;> rfl) | (simp [*, errW_none, errW_some] <;> rfl), by first | exact Kd.R_nil _ _ _ _ _ | exact Kd.N_nil _ _ _ _ _ | exact Kd.V_nil _ _ _ _ _ | exact Kd.Q_nil _ _ _ _ _ | exact Kd.S_nil _ _ _ _ _, by repeat (first | (with_reducible first | exact HB.out | apply below_alloc | apply pw_below_drewN | apply below_drew1 | refine below_set ?_ GE523.out | refine below_set ?_ GE524.out) | exact HB.out)⟩

theorem z17_0_ {p : Prop} (h : p := by (try simp only [List.map_toArray, List.map_cons, List.map_nil]); first | done | rfl | (simp only [List.length_drop, List.length_take]; rfl)) : p := h
theorem z17_2_ {p : Prop} (h : p := by exact b_ BK530.out) : p := h
theorem z17_3_ {p : Prop} (h : p := by exact b_ BK567.out) : p := h
theorem z17_4_ {p : Prop} (h : p := by repeat (first | (with_reducible first | exact HB.out | apply below_alloc | apply pw_below_drewN | apply below_drew1 | refine below_set ?_ (IsS74.ge HI531.out) | refine below_set ?_ GE530.out) | exact HB.out)) : p := h
theorem z17_5_ {p : Prop} (h : p := by repeat (first | (with_reducible first | exact HB.out | apply below_alloc | apply pw_below_drewN | apply below_drew1 | refine below_set ?_ (IsS74.ge HI568.out) | refine below_set ?_ GE567.out) | exact HB.out)) : p := h
theorem z17_6_ {p : Prop} (h : p := by repeat (first | (with_reducible first | exact HB.out | apply below_alloc | apply pw_below_drewN | apply below_drew1 | refine below_set ?_ GE567.out) | exact HB.out)) : p := h
theorem z17_7_ {p : Prop} (h : p := by exact b_ BK542.out) : p := h
theorem z17_8_ {p : Prop} (h : p := by exact rr_ HO_543000.out) : p := h
theorem z17_9_ {p : Prop} (h : p := by repeat (first | (with_reducible first | exact HB.out | apply below_alloc | apply pw_below_drewN | apply below_drew1 | refine below_set ?_ GE563.out) | exact HB.out)) : p := h
theorem z17_10_ {p : Prop} (h : p := by exact rr_ HO580.out) : p := h
theorem z17_11_ {p : Prop} (h : p := by repeat (first | (with_reducible first | exact HI531.out | apply IsS74.alloc | apply IsS74.drewN | apply IsS74.drew | apply IsS74.set_1 | apply IsS74.set_2 | refine IsS74.far ?_ NB531_530.out _) | exact HI531.out)) : p := h
theorem z17_12_ {p : Prop} (h : p := by repeat (first | (with_reducible first | exact HI568.out | apply IsS74.alloc | apply IsS74.drewN | apply IsS74.drew | apply IsS74.set_1 | apply IsS74.set_2 | refine IsS74.far ?_ NB568_567.out _) | exact HI568.out)) : p := h
theorem z17_13_ {p : Prop} (h : p := by exact b_ BK563.out) : p := h

/-! ### spec_DrawDoesFit: function 28 -/
def spec_DrawDoesFit.j0 : Nat → ByteArray → Bool → List Int → Int → Int → List (S37) → Option (Int × Int × Int × ByteArray)
 | 0, _, _, _, _, _, _ => none
 | k + 1, x5, x24, x532000, x532001, x532002, x543000 => if x24 = true then (if 0 < (x543000.length : Int) then (some ((rd_T37 x543000 0).f0, (rd_T37 x543000 0).f1, (rd_T37 x543000 0).f2, x5)) else (none)) else ((spec_l1Cur_one.f x532000 x532001 x532002 10).bind fun bt547 => (if bt547.1 = true then ((spec_l1Cur_ticket.f k x532000 bt547.2.1 bt547.2.2).bind fun bt550 => ((spec_l1Cur_clue.f k x532000 bt550.2.1 bt550.2.2).bind fun bt553 => (some (bt553.1, bt553.2.1, bt553.2.2.1, bt550.1)))) else ((spec_l1Cur_clue.f k x532000 bt547.2.1 bt547.2.2).bind fun bt558 => (some (bt558.1, bt558.2.1, bt558.2.2.1, x5)))))
def spec_DrawDoesFit.f (k : Nat) (l0 : List Int) : Option (Int × Int × Int × ByteArray) := (spec_l1Cur_hidden.f k l0 0 0).bind fun bt532 => ((spec_l1Cur_pick.f l0 bt532.2.1 bt532.2.2 10000).bind fun bt535 => ((spec_MakePuzzle.f k bt532.1 1 bt535.1).bind fun bt538 => (if bt538.2 = true then ((spec_l1Cur_one.f l0 bt535.2.1 bt535.2.2 3).bind fun bt543 => (spec_DrawDoesFit.j0 k bt532.1 bt543.1 l0 bt543.2.1 bt543.2.2 bt538.1)) else (spec_DrawDoesFit.j0 k bt532.1 false l0 bt535.2.1 bt535.2.2 bt538.1))))
theorem spec_DrawDoesFit.mono_l : ∀ k, (∀ y0 y1 y2 y3 y4 y5, LeO (spec_DrawDoesFit.j0 k y0 y1 y2 y3 y4 y5) (spec_DrawDoesFit.j0 (k + 1) y0 y1 y2 y3 y4 y5))
 | 0 => fun _ _ _ _ _ _ r h => by simp [spec_DrawDoesFit.j0] at h
 | k + 1 => by
  have ih0 := spec_DrawDoesFit.mono_l k
  intro y0 y1 y2 y3 y4 y5
  unfold spec_DrawDoesFit.j0
  repeat' first
  | (with_reducible exact ih0 _ _ _ _ _ _)
  | (with_reducible exact spec_MakePuzzle.mono _ _ _ _)
  | (with_reducible exact spec_l1Cur_clue.mono _ _ _ _)
  | (with_reducible exact spec_l1Cur_hidden.mono _ _ _ _)
  | (with_reducible exact spec_l1Cur_ticket.mono _ _ _ _)
  | (with_reducible exact LeO.refl _)
  | (with_reducible exact LeO.none _)
  | (with_reducible refine LeO.ite ?_ ?_)
  | (with_reducible refine LeO.bind ?_ (fun _ => ?_))
  | exact LeO.none _
  | refine LeO.ite ?_ ?_
  | refine LeO.bind ?_ (fun _ => ?_)
theorem spec_DrawDoesFit.mono : ∀ a0 k, LeO (spec_DrawDoesFit.f k a0) (spec_DrawDoesFit.f (k + 1) a0) := by
 intro a0 k
 have ih0 := spec_DrawDoesFit.mono_l k
 unfold spec_DrawDoesFit.f
 repeat' first
  | (with_reducible exact ih0 _ _ _ _ _ _)
  | (with_reducible exact spec_MakePuzzle.mono _ _ _ _)
  | (with_reducible exact spec_l1Cur_clue.mono _ _ _ _)
  | (with_reducible exact spec_l1Cur_hidden.mono _ _ _ _)
  | (with_reducible exact spec_l1Cur_ticket.mono _ _ _ _)
  | (with_reducible exact LeO.refl _)
  | (with_reducible exact LeO.none _)
  | (with_reducible refine LeO.ite ?_ ?_)
  | (with_reducible refine LeO.bind ?_ (fun _ => ?_))
  | exact LeO.none _
  | refine LeO.ite ?_ ?_
  | refine LeO.bind ?_ (fun _ => ?_)
set_option maxHeartbeats 8000000 in
set_option maxRecDepth 100000 in
theorem spec_DrawDoesFit.calls (k : Nat) (A0 : Option Addr) (c0 : Nat) (l0 : List Int) (r1 : Int) (r2 : Int) (r3 : Int) (r4 : ByteArray) (w : World) (hr0 : Kd.C (Kd.int .u8) w A0 l0.length l0) (hc0 : l0.length ≤ c0) (h : spec_DrawDoesFit.f k l0 = some (r1, r2, r3, r4)) :
 Calls Tryz.prog 28 #[.slice A0 l0.length c0] w fun e w' => e = .returned (.tuple #[.agg #[.int .i64 r1, .int .i64 r2, .int .i64 r3], .string r4]) ∧ Below w.heap.size w w' := by
 have hu37 := Tryz.underlying37
 have hu74 := Tryz.underlying74
 have hu28 := Tryz.underlying28
 have HR0 := Aside0.mk hr0
 have HC0 := Aside0.mk hc0
 clear hr0 hc0
 have HB := Aside0.mk (Below.refl w.heap.size w)
 unfold spec_DrawDoesFit.f at h
 have H := h
 clear h
 replace H := bd_ H; obtain ⟨⟨t532, t533, t534⟩, A2, H⟩ := H
 dsimp only at H
 replace H := bd_ H; obtain ⟨⟨t535, t536, t537⟩, A3, H⟩ := H
 dsimp only at H
 replace H := bd_ H; obtain ⟨⟨t538, t541⟩, A4, H⟩ := H
 dsimp only at H
 have HC5 := Aside0.mk H
 clear H
 go_enter Tryz.func28, Tryz.ntmps28
 go_upto_region 4 with (first | (refine bx_ 2 #[.int .i64 0, .int .i64 0, .int .i64 0] 37 ?_; intro gb530 hg w6 hbox hb; have BK530 := Aside0.mk (hbox); have GW530 : Aside0 (w.heap.size ≤ gb530) := bs_ hg zB_; have GE530 := GW530; replace HB := Aside0.mk (below_step zB_ hb); clear hb hbox hg) | (refine bx_ 10 #[.slice A0 l0.length c0, .int .i64 0, .int .u64 0] 74 ?_; intro gb531 hg w7 hbox hb; have NB530_531 := nl_ BK530 z17_2_ hg; have NB531_530 := ns_ NB530_531; replace BK530 := bb_ BK530 z17_2_ hb; have HI531 := Aside0.mk ((⟨_, _, hbox, (by rw [hg]; exact (below_size (by repeat (first | (with_reducible first | exact HB.out | apply below_alloc | apply pw_below_drewN | apply below_drew1 | refine below_set ?_ GE530.out) | exact HB.out))) : w.heap.size ≤ gb531), HR0.out⟩ : IsS74 w w7 gb531 l0 0 0)); replace HB := Aside0.mk (below_step (by repeat (first | (with_reducible first | exact HB.out | apply below_alloc | apply pw_below_drewN | apply below_drew1 | refine below_set ?_ GE530.out) | exact HB.out)) hb); clear hb hbox hg) | ((with_reducible refine gc_ 60 rfl ?_); refine gL_ 12 Tryz.func60 #[.pointer (some ⟨gb531, 0, none⟩)] ?_; (with_reducible refine (spec_l1Cur_hidden.calls k gb531 l0 0 0 t532 t533 t534 w _ ?side1 ?side2 A2.out).mono ?_); (case side1 => exact zc17_3_); (case side2 => exact zc17_6_); rintro e w8 ⟨rfl, hi, hb, hk⟩; refine ⟨_, rfl, ?_⟩; replace BK530 := Aside0.mk (KeepBut.blk hk (g' := gb530) (o := .cells #[.int .i64 0, .int .i64 0, .int .i64 0] 37 (0, 0)) z17_2_ NB530_531.out (by simp)); replace HB := Aside0.mk (hb); replace HI531 := Aside0.mk (hi)) | ((with_reducible refine gc_ 61 rfl ?_); refine gL_ 16 Tryz.func61 #[.pointer (some ⟨gb531, 0, none⟩), .int .i64 10000] ?_; (with_reducible refine (spec_l1Cur_pick.calls gb531 l0 t533 t534 10000 t535 t536 t537 w _ ?side1 ?side2 A3.out).mono ?_); (case side1 => exact zc17_3_); (case side2 => exact zc17_6_); rintro e w9 ⟨rfl, hi, hb, hk⟩; refine ⟨_, rfl, ?_⟩; replace BK530 := Aside0.mk (KeepBut.blk hk (g' := gb530) (o := .cells #[.int .i64 0, .int .i64 0, .int .i64 0] 37 (0, 0)) z17_2_ NB530_531.out (by simp)); replace HB := Aside0.mk (hb); replace HI531 := Aside0.mk (hi)) | ((with_reducible refine gc_ 8 rfl ?_); refine gL_ 17 Tryz.func8 #[.string t532, .int .i64 1, .int .i64 t535] ?_; (with_reducible refine (spec_MakePuzzle.calls k t532 1 t535 t538 t541 _ A4.out).mono ?_); rintro e w10 ⟨v539, rfl, ho0, hb⟩; refine ⟨_, rfl, ?_⟩; have HO540 := Aside0.mk (Kd.R_lower (Kd.R_newB ho0 (g := gb530) (o := .cells #[.int .i64 0, .int .i64 0, .int .i64 0] 37 (0, 0)) z17_2_) (below_size z17_4_)); replace BK530 := bb_ BK530 z17_2_ hb; replace HB := Aside0.mk (below_step z17_4_ hb); replace HI531 := Aside0.mk (IsS74.below z17_11_ hb)) | (refine bx_ 6 #[.slice none 0 0] 28 ?_; intro gb542 hg w11 hbox hb; replace HO540 := Aside0.mk (Kd.R_below (rr_ HO540.out) hb); have BK542 := Aside0.mk (hbox); have GW542 : Aside0 (w.heap.size ≤ gb542) := bs_ hg z17_4_; have GE542 := GW542; replace HB := Aside0.mk (below_step z17_4_ hb); have NB530_542 := nl_ BK530 z17_2_ hg; have NB542_530 := ns_ NB530_542; replace BK530 := bb_ BK530 z17_2_ hb; have NB531_542 := Aside0.mk ((by rw [hg]; exact Nat.ne_of_lt (IsS74.lt (show IsS74 w _ gb531 l0 t536 t537 from by repeat (first | (with_reducible first | exact HI531.out | apply IsS74.alloc | apply IsS74.drewN | apply IsS74.drew | apply IsS74.set_1 | apply IsS74.set_2 | refine IsS74.far ?_ NB531_530.out _) | exact HI531.out))) : gb531 ≠ gb542)); have NB542_531 := Aside0.mk ((by rw [hg]; exact Nat.ne_of_gt (IsS74.lt (show IsS74 w _ gb531 l0 t536 t537 from by repeat (first | (with_reducible first | exact HI531.out | apply IsS74.alloc | apply IsS74.drewN | apply IsS74.drew | apply IsS74.set_1 | apply IsS74.set_2 | refine IsS74.far ?_ NB531_530.out _) | exact HI531.out))) : gb542 ≠ gb531)); replace HI531 := Aside0.mk (IsS74.below z17_11_ hb); clear hb hbox hg; obtain ⟨Ao12, co12, eo12⟩ := Kd.R_slice HO540.out; subst eo12; have hnb13 := NB542_530.out; have hnc13 := NB530_542.out; have hnb14 := NB542_531.out; have hnc14 := NB531_542.out; have hcz15_0 : w11.cell? ⟨gb542, 0, none⟩ = some (.slice none 0 0) := (blk_cell BK542.out 0).trans rfl; have hfz15_0 := blk_frozen BK542.out 0))
 (try simp only [Act.put, List.setIfInBounds_toArray, List.set_cons_zero, List.set_cons_succ])
 go_cut [24] (fun v24 wc => ∃ (kq : Nat) (x24_4 : Bool) (x532001_4 : Int) (x532002_4 : Int), v24 = .bool x24_4 ∧ Aside0 (spec_DrawDoesFit.j0 kq t532 x24_4 l0 x532001_4 x532002_4 t538 = some (r1, r2, r3, r4)) ∧ Aside0 (kq ≤ k) ∧ Aside0 (Kd.R k37 37 wc w.heap.size (fun k_ => k_ ≠ gb530) (.slice Ao12 t538.length co12) t538) ∧ Aside0 (wc.heap[gb530]? = some (.cells #[.int .i64 0, .int .i64 0, .int .i64 0] 37 (0, 0))) ∧ Aside0 (wc.heap[gb542]? = some (.cells #[(.slice Ao12 t538.length co12)] 28 (0, 0))) ∧ Aside0 (IsS74 w wc gb531 l0 x532001_4 x532002_4) ∧ Aside0 (Below w.heap.size w wc))
 case first =>
  have H := HC5.out
  clear HC5
  by_cases c16 : t541 = true
  · subst c16
    rw [if_pos rfl] at H
    replace H := bd_ H; obtain ⟨⟨t543, t544, t545⟩, A17, H⟩ := H
    dsimp only at H
    have H' := Aside0.mk H
    clear H
    go_wp2_with (first | (go_at_call 57; (with_reducible refine (spec_l1Cur_one.calls gb531 l0 t536 t537 3 t543 t544 t545 w _ ?side1 ?side2 A17.out).mono ?_); (case side1 => exact zc17_0_); (case side2 => exact zc17_1_); rintro e w18 ⟨rfl, hi, hb, hk⟩; replace BK530 := Aside0.mk (KeepBut.blk hk (g' := gb530) (o := .cells #[.int .i64 0, .int .i64 0, .int .i64 0] 37 (0, 0)) (by refine b_ ?_; refine blk_far ?_ NB530_542.out _; exact b_ BK530.out) NB530_531.out (by simp)); replace HO540 := Aside0.mk (Kd.R_mono (Kd.R_keep (IsS74.apart (show IsS74 w _ gb531 l0 t536 t537 from by repeat (first | (with_reducible first | exact HI531.out | apply IsS74.alloc | apply IsS74.drewN | apply IsS74.drew | apply IsS74.set_1 | apply IsS74.set_2 | refine IsS74.far ?_ NB531_530.out _ | refine IsS74.far ?_ NB531_542.out _) | exact HI531.out)) (by refine rr_ ?_; exact (Kd.R_mono (Kd.R_far (p := ⟨gb542, 0, none⟩) (Kd.R_types HO540.out BK542.out (by decide)) (fun _ hk => hk.2) (.slice Ao12 t538.length co12)) (fun _ h_ => h_.1))) (by decide)) hk (fun _ h => h.2)) (fun _ h => h.1)); replace BK542 := Aside0.mk (KeepBut.blk hk (g' := gb542) (o := .cells #[.slice Ao12 t538.length co12] 28 (0, 0)) (by refine b_ ?_; refine blk_put (cs := #[.slice none 0 0]) ?_ 0 _ rfl; exact b_ BK542.out) NB542_531.out (by simp)); replace HB := Aside0.mk (hb); replace HI531 := Aside0.mk (hi)))
    go_meet
    case rel => exact ⟨_, (t543), (t544), (t545), zV_, H', ⟨by first | omega | exact Nat.le_refl _⟩, ⟨by refine rr_ ?_; exact Kd.R_mono HO540.out (fun _ hk => hk.2)⟩, ⟨b_ BK530.out⟩, ⟨b_ BK542.out⟩, ⟨by repeat (first | (with_reducible first | exact HI531.out | apply IsS74.alloc | apply IsS74.drewN | apply IsS74.drew | apply IsS74.set_1 | apply IsS74.set_2 | refine IsS74.far ?_ NB531_530.out _ | refine IsS74.far ?_ NB531_542.out _) | exact HI531.out)⟩, ⟨by repeat (first | (with_reducible first | exact HB.out | apply below_alloc | apply pw_below_drewN | apply below_drew1 | refine below_set ?_ (IsS74.ge HI531.out) | refine below_set ?_ GE530.out | refine below_set ?_ GE542.out) | exact HB.out)⟩⟩
  replace H := bf_ c16 H; obtain ⟨rfl, H⟩ := H
  have H' := Aside0.mk H
  clear H
  go_wp2
  go_meet
  case rel => exact ⟨_, (false), (t536), (t537), zV_, H', ⟨by first | omega | exact Nat.le_refl _⟩, ⟨by refine rr_ ?_; exact Kd.R_mono (Kd.R_far (p := ⟨gb542, 0, none⟩) (Kd.R_types HO540.out BK542.out (by decide)) (fun _ hk => hk.2) (.slice Ao12 t538.length co12)) (fun _ hk => hk.1.2)⟩, ⟨by refine b_ ?_; refine blk_far ?_ NB530_542.out _; exact b_ BK530.out⟩, ⟨by refine b_ ?_; refine blk_put (cs := #[.slice none 0 0]) ?_ 0 _ rfl; exact b_ BK542.out⟩, ⟨by repeat (first | (with_reducible first | exact HI531.out | apply IsS74.alloc | apply IsS74.drewN | apply IsS74.drew | apply IsS74.set_1 | apply IsS74.set_2 | refine IsS74.far ?_ NB531_530.out _ | refine IsS74.far ?_ NB531_542.out _) | exact HI531.out)⟩, ⟨by repeat (first | (with_reducible first | exact HB.out | apply below_alloc | apply pw_below_drewN | apply below_drew1 | refine below_set ?_ (IsS74.ge HI531.out) | refine below_set ?_ GE530.out | refine below_set ?_ GE542.out) | exact HB.out)⟩⟩
 case rest =>
  clear HC5
  obtain ⟨kq, x24_4, x532001_4, x532002_4, rfl, HA, HJ4, HO_543000, BK530, BK542, HI531, HB⟩ := hcut
  cases kq with
  | zero => exact absurd HA.out (by simp [spec_DrawDoesFit.j0])
  | succ kj4 =>
   have H := HA.out
   clear HA
   simp only [spec_DrawDoesFit.j0] at H
   by_cases c19 : x24_4 = true
   · subst c19
     rw [if_pos rfl] at H
     replace H := gd_ H; obtain ⟨c20, H⟩ := H
     have c20b0 : decide (0 < (t538.length : Int)) = true := decide_eq_true c20
     have c20b1 : decide (0 < t538.length) = true := decide_eq_true (by omega)
     clear c20
     simp only [Option.some.injEq, Prod.mk.injEq] at H
     obtain ⟨rfl, rfl, rfl, rfl⟩ := H
     have hnb21 := NB542_530.out
     have hnc21 := NB530_542.out
     have hnb22 := NB542_531.out
     have hnc22 := NB531_542.out
     have hcz23_0 : wc.cell? ⟨gb542, 0, none⟩ = some (.slice Ao12 t538.length co12) := (blk_cell BK542.out 0).trans rfl
     have hfz23_0 := blk_frozen BK542.out 0
     have p546 : 0 ≤ (0 : Int) := (by omega)
     have q546 : 0 < (t538.length : Int) := of_decide_eq_true zS_
     obtain ⟨ad546, e546, hx546_0, hx546_1, hx546_2⟩ := at_T37 (Kd.R_reads' HO_543000.out).2.2 0 p546 q546
     cases e546
     have qi546 : (0 < t538.length) = True := eq_true (by omega)
     (try rw [show ((0 : Int)).toNat = 0 from rfl] at hx546_0)
     (try rw [show 0 * 3 = 0 from rfl] at hx546_0)
     (try rw [Addr.add_zero'] at hx546_0)
     (try rw [show ((0 : Int)).toNat = 0 from rfl] at hx546_1)
     (try rw [show 0 * 3 = 0 from rfl] at hx546_1)
     (try rw [Addr.add_zero'] at hx546_1)
     (try rw [show ((0 : Int)).toNat = 0 from rfl] at hx546_2)
     (try rw [show 0 * 3 = 0 from rfl] at hx546_2)
     (try rw [Addr.add_zero'] at hx546_2)
     replace p546 := eq_true p546
     replace q546 := eq_true q546
     have hnb24 := NB530_531.out
     have hnc24 := NB531_530.out
     have hcz25_0 : wc.cell? ⟨gb530, 0, none⟩ = some (.int .i64 0) := (blk_cell BK530.out 0).trans rfl
     have hcz25_1 : wc.cell? ⟨gb530, 1, none⟩ = some (.int .i64 0) := (blk_cell BK530.out 1).trans rfl
     have hcz25_2 : wc.cell? ⟨gb530, 2, none⟩ = some (.int .i64 0) := (blk_cell BK530.out 2).trans rfl
     have hfz25_0 := blk_frozen BK530.out 0
     have hfz25_1 := blk_frozen BK530.out 1
     have hfz25_2 := blk_frozen BK530.out 2
     go_wp2
     refine bodyPost_ret (results_ct rfl _ _ gb530 37 #[.int .i64 ((rd_T37 t538 0).f0), .int .i64 ((rd_T37 t538 0).f1), .int .i64 ((rd_T37 t538 0).f2)] (0, 0) _ rfl (by refine b_ ?_; refine blk_put (cs := #[.int .i64 ((rd_T37 t538 0).f0), .int .i64 ((rd_T37 t538 0).f1), .int .i64 0]) ?_ 2 _ rfl; refine b_ ?_; refine blk_put (cs := #[.int .i64 ((rd_T37 t538 0).f0), .int .i64 0, .int .i64 0]) ?_ 1 _ rfl; refine b_ ?_; refine blk_put (cs := #[.int .i64 0, .int .i64 0, .int .i64 0]) ?_ 0 _ rfl; exact b_ BK530.out) Tryz.underlying37 rfl (by kernel_rfl)) rfl ?_
     exact ⟨zR_, by repeat (first | (with_reducible first | exact HB.out | apply below_alloc | apply pw_below_drewN | apply below_drew1 | refine below_set ?_ (IsS74.ge HI531.out) | refine below_set ?_ GE530.out | refine below_set ?_ GE542.out) | exact HB.out)⟩
   replace H := bf_ c19 H; obtain ⟨rfl, H⟩ := H
   replace H := bd_ H; obtain ⟨⟨t547, t548, t549⟩, A26, H⟩ := H
   dsimp only at H
   by_cases c27 : t547 = true
   · subst c27
     rw [if_pos rfl] at H
     replace H := bd_ H; obtain ⟨⟨t550, t551, t552⟩, A28, H⟩ := H
     dsimp only at H
     replace H := bd_ H; obtain ⟨⟨t553, t554, t555, t556, t557⟩, A29, H⟩ := H
     dsimp only at H
     simp only [Option.some.injEq, Prod.mk.injEq] at H
     obtain ⟨rfl, rfl, rfl, rfl⟩ := H
     go_wp2_with (first | ((with_reducible refine gc_ 57 rfl ?_); refine gL_ 31 Tryz.func57 #[.pointer (some ⟨gb531, 0, none⟩), .int .i64 10] ?_; (with_reducible refine (spec_l1Cur_one.calls gb531 l0 x532001_4 x532002_4 10 true t548 t549 w _ ?side1 ?side2 A26.out).mono ?_); (case side1 => exact zc17_0_); (case side2 => exact zc17_1_); rintro e w30 ⟨rfl, hi, hb, hk⟩; refine ⟨_, rfl, ?_⟩; replace HO_543000 := Aside0.mk (Kd.R_mono (Kd.R_keep (IsS74.apart (show IsS74 w _ gb531 l0 x532001_4 x532002_4 from by repeat (first | (with_reducible first | exact HI531.out | apply IsS74.alloc | apply IsS74.drewN | apply IsS74.drew | apply IsS74.set_1 | apply IsS74.set_2 | refine IsS74.far ?_ NB531_530.out _ | refine IsS74.far ?_ NB531_542.out _) | exact HI531.out)) z17_8_ (by decide)) hk (fun _ h => h.2)) (fun _ h => h.1)); replace BK530 := Aside0.mk (KeepBut.blk hk (g' := gb530) (o := .cells #[.int .i64 0, .int .i64 0, .int .i64 0] 37 (0, 0)) z17_2_ NB530_531.out (by simp)); replace BK542 := Aside0.mk (KeepBut.blk hk (g' := gb542) (o := .cells #[.slice Ao12 t538.length co12] 28 (0, 0)) z17_7_ NB542_531.out (by simp)); replace HB := Aside0.mk (hb); replace HI531 := Aside0.mk (hi)) | ((with_reducible refine gc_ 58 rfl ?_); refine gL_ 33 Tryz.func58 #[.pointer (some ⟨gb531, 0, none⟩)] ?_; (with_reducible refine (spec_l1Cur_ticket.calls kj4 gb531 l0 t548 t549 t550 t551 t552 w _ ?side1 ?side2 A28.out).mono ?_); (case side1 => exact zc17_0_); (case side2 => exact zc17_1_); rintro e w31 ⟨rfl, hi, hb, hk⟩; refine ⟨_, rfl, ?_⟩; replace HO_543000 := Aside0.mk (Kd.R_mono (Kd.R_keep (IsS74.apart (show IsS74 w _ gb531 l0 t548 t549 from by repeat (first | (with_reducible first | exact HI531.out | apply IsS74.alloc | apply IsS74.drewN | apply IsS74.drew | apply IsS74.set_1 | apply IsS74.set_2 | refine IsS74.far ?_ NB531_530.out _ | refine IsS74.far ?_ NB531_542.out _) | exact HI531.out)) z17_8_ (by decide)) hk (fun _ h => h.2)) (fun _ h => h.1)); replace BK530 := Aside0.mk (KeepBut.blk hk (g' := gb530) (o := .cells #[.int .i64 0, .int .i64 0, .int .i64 0] 37 (0, 0)) z17_2_ NB530_531.out (by simp)); replace BK542 := Aside0.mk (KeepBut.blk hk (g' := gb542) (o := .cells #[.slice Ao12 t538.length co12] 28 (0, 0)) z17_7_ NB542_531.out (by simp)); replace HB := Aside0.mk (hb); replace HI531 := Aside0.mk (hi)) | ((with_reducible refine gc_ 84 rfl ?_); refine gL_ 35 Tryz.func84 #[.pointer (some ⟨gb531, 0, none⟩)] ?_; (with_reducible refine (spec_l1Cur_clue.calls kj4 gb531 l0 t551 t552 t553 t554 t555 t556 t557 w _ ?side1 ?side2 A29.out).mono ?_); (case side1 => exact zc17_0_); (case side2 => exact zc17_1_); rintro e w32 ⟨rfl, hi, hb, hk⟩; refine ⟨_, rfl, ?_⟩; replace HO_543000 := Aside0.mk (Kd.R_mono (Kd.R_keep (IsS74.apart (show IsS74 w _ gb531 l0 t551 t552 from by repeat (first | (with_reducible first | exact HI531.out | apply IsS74.alloc | apply IsS74.drewN | apply IsS74.drew | apply IsS74.set_1 | apply IsS74.set_2 | refine IsS74.far ?_ NB531_530.out _ | refine IsS74.far ?_ NB531_542.out _) | exact HI531.out)) z17_8_ (by decide)) hk (fun _ h => h.2)) (fun _ h => h.1)); replace BK530 := Aside0.mk (KeepBut.blk hk (g' := gb530) (o := .cells #[.int .i64 0, .int .i64 0, .int .i64 0] 37 (0, 0)) z17_2_ NB530_531.out (by simp)); replace BK542 := Aside0.mk (KeepBut.blk hk (g' := gb542) (o := .cells #[.slice Ao12 t538.length co12] 28 (0, 0)) z17_7_ NB542_531.out (by simp)); replace HB := Aside0.mk (hb); replace HI531 := Aside0.mk (hi); have hnb33 := NB530_542.out; have hnc33 := NB542_530.out; have hnb34 := NB530_531.out; have hnc34 := NB531_530.out; have hcz35_0 : w32.cell? ⟨gb530, 0, none⟩ = some (.int .i64 0) := (blk_cell BK530.out 0).trans rfl; have hcz35_1 : w32.cell? ⟨gb530, 1, none⟩ = some (.int .i64 0) := (blk_cell BK530.out 1).trans rfl; have hcz35_2 : w32.cell? ⟨gb530, 2, none⟩ = some (.int .i64 0) := (blk_cell BK530.out 2).trans rfl; have hfz35_0 := blk_frozen BK530.out 0; have hfz35_1 := blk_frozen BK530.out 1; have hfz35_2 := blk_frozen BK530.out 2))
     refine bodyPost_ret (results_ct rfl _ _ gb530 37 #[.int .i64 t553, .int .i64 t554, .int .i64 t555] (0, 0) _ rfl (by refine b_ ?_; refine blk_put (cs := #[.int .i64 t553, .int .i64 t554, .int .i64 0]) ?_ 2 _ rfl; refine b_ ?_; refine blk_put (cs := #[.int .i64 t553, .int .i64 0, .int .i64 0]) ?_ 1 _ rfl; refine b_ ?_; refine blk_put (cs := #[.int .i64 0, .int .i64 0, .int .i64 0]) ?_ 0 _ rfl; exact b_ BK530.out) Tryz.underlying37 rfl (by kernel_rfl)) rfl ?_
     exact ⟨zR_, by repeat (first | (with_reducible first | exact HB.out | apply below_alloc | apply pw_below_drewN | apply below_drew1 | refine below_set ?_ (IsS74.ge HI531.out) | refine below_set ?_ GE530.out | refine below_set ?_ GE542.out) | exact HB.out)⟩
   replace H := bf_ c27 H; obtain ⟨rfl, H⟩ := H
   replace H := bd_ H; obtain ⟨⟨t558, t559, t560, t561, t562⟩, A36, H⟩ := H
   dsimp only at H
   simp only [Option.some.injEq, Prod.mk.injEq] at H
   obtain ⟨rfl, rfl, rfl, rfl⟩ := H
   go_wp2_with (first | ((with_reducible refine gc_ 57 rfl ?_); refine gL_ 31 Tryz.func57 #[.pointer (some ⟨gb531, 0, none⟩), .int .i64 10] ?_; (with_reducible refine (spec_l1Cur_one.calls gb531 l0 x532001_4 x532002_4 10 false t548 t549 w _ ?side1 ?side2 A26.out).mono ?_); (case side1 => exact zc17_0_); (case side2 => exact zc17_1_); rintro e w37 ⟨rfl, hi, hb, hk⟩; refine ⟨_, rfl, ?_⟩; replace HO_543000 := Aside0.mk (Kd.R_mono (Kd.R_keep (IsS74.apart (show IsS74 w _ gb531 l0 x532001_4 x532002_4 from by repeat (first | (with_reducible first | exact HI531.out | apply IsS74.alloc | apply IsS74.drewN | apply IsS74.drew | apply IsS74.set_1 | apply IsS74.set_2 | refine IsS74.far ?_ NB531_530.out _ | refine IsS74.far ?_ NB531_542.out _) | exact HI531.out)) z17_8_ (by decide)) hk (fun _ h => h.2)) (fun _ h => h.1)); replace BK530 := Aside0.mk (KeepBut.blk hk (g' := gb530) (o := .cells #[.int .i64 0, .int .i64 0, .int .i64 0] 37 (0, 0)) z17_2_ NB530_531.out (by simp)); replace BK542 := Aside0.mk (KeepBut.blk hk (g' := gb542) (o := .cells #[.slice Ao12 t538.length co12] 28 (0, 0)) z17_7_ NB542_531.out (by simp)); replace HB := Aside0.mk (hb); replace HI531 := Aside0.mk (hi)) | ((with_reducible refine gc_ 84 rfl ?_); refine gL_ 35 Tryz.func84 #[.pointer (some ⟨gb531, 0, none⟩)] ?_; (with_reducible refine (spec_l1Cur_clue.calls kj4 gb531 l0 t548 t549 t558 t559 t560 t561 t562 w _ ?side1 ?side2 A36.out).mono ?_); (case side1 => exact zc17_0_); (case side2 => exact zc17_1_); rintro e w38 ⟨rfl, hi, hb, hk⟩; refine ⟨_, rfl, ?_⟩; replace HO_543000 := Aside0.mk (Kd.R_mono (Kd.R_keep (IsS74.apart (show IsS74 w _ gb531 l0 t548 t549 from by repeat (first | (with_reducible first | exact HI531.out | apply IsS74.alloc | apply IsS74.drewN | apply IsS74.drew | apply IsS74.set_1 | apply IsS74.set_2 | refine IsS74.far ?_ NB531_530.out _ | refine IsS74.far ?_ NB531_542.out _) | exact HI531.out)) z17_8_ (by decide)) hk (fun _ h => h.2)) (fun _ h => h.1)); replace BK530 := Aside0.mk (KeepBut.blk hk (g' := gb530) (o := .cells #[.int .i64 0, .int .i64 0, .int .i64 0] 37 (0, 0)) z17_2_ NB530_531.out (by simp)); replace BK542 := Aside0.mk (KeepBut.blk hk (g' := gb542) (o := .cells #[.slice Ao12 t538.length co12] 28 (0, 0)) z17_7_ NB542_531.out (by simp)); replace HB := Aside0.mk (hb); replace HI531 := Aside0.mk (hi); have hnb39 := NB530_542.out; have hnc39 := NB542_530.out; have hnb40 := NB530_531.out; have hnc40 := NB531_530.out; have hcz41_0 : w38.cell? ⟨gb530, 0, none⟩ = some (.int .i64 0) := (blk_cell BK530.out 0).trans rfl; have hcz41_1 : w38.cell? ⟨gb530, 1, none⟩ = some (.int .i64 0) := (blk_cell BK530.out 1).trans rfl; have hcz41_2 : w38.cell? ⟨gb530, 2, none⟩ = some (.int .i64 0) := (blk_cell BK530.out 2).trans rfl; have hfz41_0 := blk_frozen BK530.out 0; have hfz41_1 := blk_frozen BK530.out 1; have hfz41_2 := blk_frozen BK530.out 2))
   refine bodyPost_ret (results_ct rfl _ _ gb530 37 #[.int .i64 t558, .int .i64 t559, .int .i64 t560] (0, 0) _ rfl (by refine b_ ?_; refine blk_put (cs := #[.int .i64 t558, .int .i64 t559, .int .i64 0]) ?_ 2 _ rfl; refine b_ ?_; refine blk_put (cs := #[.int .i64 t558, .int .i64 0, .int .i64 0]) ?_ 1 _ rfl; refine b_ ?_; refine blk_put (cs := #[.int .i64 0, .int .i64 0, .int .i64 0]) ?_ 0 _ rfl; exact b_ BK530.out) Tryz.underlying37 rfl (by kernel_rfl)) rfl ?_
   exact ⟨zR_, by repeat (first | (with_reducible first | exact HB.out | apply below_alloc | apply pw_below_drewN | apply below_drew1 | refine below_set ?_ (IsS74.ge HI531.out) | refine below_set ?_ GE530.out | refine below_set ?_ GE542.out) | exact HB.out)⟩

/-! ### spec_DoesFit: function 29 -/
def spec_DoesFit.f (k : Nat) (a0_0 : Int) (a0_1 : Int) (a0_2 : Int) (a1 : ByteArray) : Option (Bool × Bool) := (spec_pzHidden.f k a1).bind fun t564 => (if t564 = true then ((spec_pzClue.f a0_0 a0_1 a0_2).bind fun t565 => (if t565 = true then ((spec_pzFits.f k a0_0 a0_1 a0_2 a1).bind fun t566 => (some (t566, true))) else (some (false, false)))) else (some (false, false)))
theorem spec_DoesFit.mono : ∀ a0 a1 a2 a3 k, LeO (spec_DoesFit.f k a0 a1 a2 a3) (spec_DoesFit.f (k + 1) a0 a1 a2 a3) := by
 intro a0 a1 a2 a3 k
 unfold spec_DoesFit.f
 have m1_ := @spec_pzFits.mono
 have m2_ := @spec_pzHidden.mono
 exact zM_
set_option maxHeartbeats 8000000 in
set_option maxRecDepth 100000 in
theorem spec_DoesFit.calls (k : Nat) (a0_0 : Int) (a0_1 : Int) (a0_2 : Int) (a1 : ByteArray) (r1 : Bool) (r2 : Bool) (w : World) (h : spec_DoesFit.f k a0_0 a0_1 a0_2 a1 = some (r1, r2)) :
 Calls Tryz.prog 29 #[.agg #[.int .i64 a0_0, .int .i64 a0_1, .int .i64 a0_2], .string a1] w fun e w' => e = .returned (.tuple #[.bool r1, .bool r2]) ∧ Below w.heap.size w w' := by
 have hu37 := Tryz.underlying37
 have HB := Aside0.mk (Below.refl w.heap.size w)
 unfold spec_DoesFit.f at h
 have H := h
 clear h
 replace H := bd_ H; obtain ⟨t564, A3, H⟩ := H
 by_cases c4 : t564 = true
 rotate_left
 · replace H := bf_ c4 H; obtain ⟨rfl, H⟩ := H
   simp only [Option.some.injEq, Prod.mk.injEq] at H
   obtain ⟨rfl, rfl⟩ := H
   go_enter Tryz.func29, Tryz.ntmps29
   go_wp2_with (first | (refine bx_ 2 #[.int .i64 a0_0, .int .i64 a0_1, .int .i64 a0_2] 37 ?_; intro gb563 hg w16 hbox hb; have BK563 := Aside0.mk (hbox); have GW563 : Aside0 (w.heap.size ≤ gb563) := bs_ hg zB_; have GE563 := GW563; replace HB := Aside0.mk (below_step zB_ hb); clear hb hbox hg) | ((with_reducible refine gc_ 66 rfl ?_); refine gL_ 7 Tryz.func66 #[.string a1] ?_; (with_reducible refine (spec_pzHidden.calls k a1 false _ A3.out).mono ?_); rintro e w' ⟨rfl, ⟨nd, rfl⟩⟩; refine ⟨_, rfl, ?_⟩))
   go_ret2
   exact ⟨zR_, by repeat (first | (with_reducible first | exact HB.out | apply below_alloc | apply pw_below_drewN | apply below_drew1 | refine below_set ?_ GE563.out) | exact HB.out)⟩
 subst c4
 rw [if_pos rfl] at H
 replace H := bd_ H; obtain ⟨t565, A5, H⟩ := H
 by_cases c6 : t565 = true
 · subst c6
   rw [if_pos rfl] at H
   replace H := bd_ H; obtain ⟨t566, A7, H⟩ := H
   simp only [Option.some.injEq, Prod.mk.injEq] at H
   obtain ⟨rfl, rfl⟩ := H
   go_enter Tryz.func29, Tryz.ntmps29
   go_wp2_with (first | (refine bx_ 2 #[.int .i64 a0_0, .int .i64 a0_1, .int .i64 a0_2] 37 ?_; intro gb563 hg w8 hbox hb; have BK563 := Aside0.mk (hbox); have GW563 : Aside0 (w.heap.size ≤ gb563) := bs_ hg zB_; have GE563 := GW563; replace HB := Aside0.mk (below_step zB_ hb); clear hb hbox hg) | ((with_reducible refine gc_ 66 rfl ?_); refine gL_ 7 Tryz.func66 #[.string a1] ?_; (with_reducible refine (spec_pzHidden.calls k a1 true _ A3.out).mono ?_); rintro e w' ⟨rfl, ⟨nd, rfl⟩⟩; refine ⟨_, rfl, ?_⟩; have hcz9_0 : w8.cell? ⟨gb563, 0, none⟩ = some (.int .i64 a0_0) := (blk_cell BK563.out 0).trans rfl; have hcz9_1 : w8.cell? ⟨gb563, 1, none⟩ = some (.int .i64 a0_1) := (blk_cell BK563.out 1).trans rfl; have hcz9_2 : w8.cell? ⟨gb563, 2, none⟩ = some (.int .i64 a0_2) := (blk_cell BK563.out 2).trans rfl; have hfz9_0 := blk_frozen BK563.out 0; have hfz9_1 := blk_frozen BK563.out 1; have hfz9_2 := blk_frozen BK563.out 2) | (go_at_call 85; (with_reducible refine (spec_pzClue.calls a0_0 a0_1 a0_2 true _ A5.out).mono ?_); rintro e w10 ⟨rfl, hb⟩; replace BK563 := bb_ BK563 z17_13_ hb; replace HB := Aside0.mk (below_step z17_9_ hb); have hcz11_0 : w10.cell? ⟨gb563, 0, none⟩ = some (.int .i64 a0_0) := (blk_cell BK563.out 0).trans rfl; have hcz11_1 : w10.cell? ⟨gb563, 1, none⟩ = some (.int .i64 a0_1) := (blk_cell BK563.out 1).trans rfl; have hcz11_2 : w10.cell? ⟨gb563, 2, none⟩ = some (.int .i64 a0_2) := (blk_cell BK563.out 2).trans rfl; have hfz11_0 := blk_frozen BK563.out 0; have hfz11_1 := blk_frozen BK563.out 1; have hfz11_2 := blk_frozen BK563.out 2) | ((with_reducible refine gc_ 86 rfl ?_); refine gL_ 16 Tryz.func86 #[.agg #[.int .i64 a0_0, .int .i64 a0_1, .int .i64 a0_2], .string a1] ?_; (with_reducible refine (spec_pzFits.calls k a0_0 a0_1 a0_2 a1 t566 _ A7.out).mono ?_); rintro e w12 ⟨rfl, hb⟩; refine ⟨_, rfl, ?_⟩; replace BK563 := bb_ BK563 z17_13_ hb; replace HB := Aside0.mk (below_step z17_9_ hb)))
   go_ret2
   exact ⟨zR_, by repeat (first | (with_reducible first | exact HB.out | apply below_alloc | apply pw_below_drewN | apply below_drew1 | refine below_set ?_ GE563.out) | exact HB.out)⟩
 replace H := bf_ c6 H; obtain ⟨rfl, H⟩ := H
 simp only [Option.some.injEq, Prod.mk.injEq] at H
 obtain ⟨rfl, rfl⟩ := H
 go_enter Tryz.func29, Tryz.ntmps29
 go_wp2_with (first | (refine bx_ 2 #[.int .i64 a0_0, .int .i64 a0_1, .int .i64 a0_2] 37 ?_; intro gb563 hg w13 hbox hb; have BK563 := Aside0.mk (hbox); have GW563 : Aside0 (w.heap.size ≤ gb563) := bs_ hg zB_; have GE563 := GW563; replace HB := Aside0.mk (below_step zB_ hb); clear hb hbox hg) | ((with_reducible refine gc_ 66 rfl ?_); refine gL_ 7 Tryz.func66 #[.string a1] ?_; (with_reducible refine (spec_pzHidden.calls k a1 true _ A3.out).mono ?_); rintro e w' ⟨rfl, ⟨nd, rfl⟩⟩; refine ⟨_, rfl, ?_⟩; have hcz14_0 : w13.cell? ⟨gb563, 0, none⟩ = some (.int .i64 a0_0) := (blk_cell BK563.out 0).trans rfl; have hcz14_1 : w13.cell? ⟨gb563, 1, none⟩ = some (.int .i64 a0_1) := (blk_cell BK563.out 1).trans rfl; have hcz14_2 : w13.cell? ⟨gb563, 2, none⟩ = some (.int .i64 a0_2) := (blk_cell BK563.out 2).trans rfl; have hfz14_0 := blk_frozen BK563.out 0; have hfz14_1 := blk_frozen BK563.out 1; have hfz14_2 := blk_frozen BK563.out 2) | (go_at_call 85; (with_reducible refine (spec_pzClue.calls a0_0 a0_1 a0_2 false _ A5.out).mono ?_); rintro e w15 ⟨rfl, hb⟩; replace BK563 := bb_ BK563 z17_13_ hb; replace HB := Aside0.mk (below_step z17_9_ hb)))
 go_ret2
 exact ⟨zR_, by repeat (first | (with_reducible first | exact HB.out | apply below_alloc | apply pw_below_drewN | apply below_drew1 | refine below_set ?_ GE563.out) | exact HB.out)⟩

/-! ### spec_DrawIsClue: function 30 -/
def spec_DrawIsClue.f (k : Nat) (l0 : List Int) : Option (Int × Int × Int) := (spec_l1Cur_one.f l0 0 0 3).bind fun bt569 => (if bt569.1 = true then ((spec_l1Cur_pick.f l0 bt569.2.1 bt569.2.2 7).bind fun bt572 => ((spec_l1Cur_pick.f l0 bt572.2.1 bt572.2.2 9).bind fun bt575 => ((spec_l1Cur_among.f l0 bt575.2.1 bt575.2.2 (([(-1), 0, 0, 1, 2, 3, 4, 4611686018427387904] : List Int))).bind fun bt581 => ((spec_l1Cur_among.f l0 bt581.2.1 bt581.2.2 (([(-1), 0, 1, 2, 9, 10, 20, 21] : List Int))).bind fun bt587 => (some (wrap64 (bt572.1 - (wrap64 (Int.tdiv bt575.1 8))), bt581.1, bt587.1)))))) else ((spec_l1Cur_clue.f k l0 bt569.2.1 bt569.2.2).bind fun bt590 => (some (bt590.1, bt590.2.1, bt590.2.2.1))))
theorem spec_DrawIsClue.mono : ∀ a0 k, LeO (spec_DrawIsClue.f k a0) (spec_DrawIsClue.f (k + 1) a0) := by
 intro a0 k
 unfold spec_DrawIsClue.f
 have m1_ := @spec_l1Cur_clue.mono
 exact zM_
set_option maxHeartbeats 8000000 in
set_option maxRecDepth 100000 in
theorem spec_DrawIsClue.calls (k : Nat) (A0 : Option Addr) (c0 : Nat) (l0 : List Int) (r1 : Int) (r2 : Int) (r3 : Int) (w : World) (hr0 : Kd.C (Kd.int .u8) w A0 l0.length l0) (hc0 : l0.length ≤ c0) (h : spec_DrawIsClue.f k l0 = some (r1, r2, r3)) :
 Calls Tryz.prog 30 #[.slice A0 l0.length c0] w fun e w' => e = .returned (.agg #[.int .i64 r1, .int .i64 r2, .int .i64 r3]) ∧ Below w.heap.size w w' := by
 have hu37 := Tryz.underlying37
 have hu74 := Tryz.underlying74
 have HR0 := Aside0.mk hr0
 have HC0 := Aside0.mk hc0
 clear hr0 hc0
 have HB := Aside0.mk (Below.refl w.heap.size w)
 unfold spec_DrawIsClue.f at h
 have H := h
 clear h
 replace H := bd_ H; obtain ⟨⟨t569, t570, t571⟩, A2, H⟩ := H
 dsimp only at H
 by_cases c3 : t569 = true
 · subst c3
   rw [if_pos rfl] at H
   replace H := bd_ H; obtain ⟨⟨t572, t573, t574⟩, A4, H⟩ := H
   dsimp only at H
   replace H := bd_ H; obtain ⟨⟨t575, t576, t577⟩, A5, H⟩ := H
   dsimp only at H
   obtain ⟨y578, hy578⟩ : ∃ y_ : List Int, y_ = (([(-1), 0, 0, 1, 2, 3, 4, 4611686018427387904] : List Int)) := ⟨_, rfl⟩
   replace H : ((spec_l1Cur_among.f l0 t576 t577 y578).bind fun bt581 => ((spec_l1Cur_among.f l0 bt581.2.1 bt581.2.2 (([(-1), 0, 1, 2, 9, 10, 20, 21] : List Int))).bind fun bt587 => (some (wrap64 (t572 - (wrap64 (Int.tdiv t575 8))), bt581.1, bt587.1)))) = some (r1, r2, r3) := by first | (rw [hy578]; with_reducible exact H) | (have H2_ := (Option.bind_some _ _).symm.trans H; rw [hy578]; with_reducible exact H2_) | (have H2_ := (Option.bind_some _ _).symm.trans H; with_reducible exact H2_) | with_reducible exact H | (rw [hy578]; exact H) | exact H
   have Ny578 := Aside0.mk hy578
   clear hy578
   replace H := bd_ H; obtain ⟨⟨t581, t582, t583⟩, A6, H⟩ := H
   dsimp only at H
   obtain ⟨y584, hy584⟩ : ∃ y_ : List Int, y_ = (([(-1), 0, 1, 2, 9, 10, 20, 21] : List Int)) := ⟨_, rfl⟩
   replace H : ((spec_l1Cur_among.f l0 t582 t583 y584).bind fun bt587 => (some (wrap64 (t572 - (wrap64 (Int.tdiv t575 8))), t581, bt587.1))) = some (r1, r2, r3) := by first | (rw [hy584]; with_reducible exact H) | (have H2_ := (Option.bind_some _ _).symm.trans H; rw [hy584]; with_reducible exact H2_) | (have H2_ := (Option.bind_some _ _).symm.trans H; with_reducible exact H2_) | with_reducible exact H | (rw [hy584]; exact H) | exact H
   have Ny584 := Aside0.mk hy584
   clear hy584
   replace H := bd_ H; obtain ⟨⟨t587, t588, t589⟩, A7, H⟩ := H
   dsimp only at H
   simp only [Option.some.injEq, Prod.mk.injEq] at H
   obtain ⟨rfl, rfl, rfl⟩ := H
   go_enter Tryz.func30, Tryz.ntmps30
   go_wp2_with (first | (refine bx_ 2 #[.int .i64 0, .int .i64 0, .int .i64 0] 37 ?_; intro gb567 hg w8 hbox hb; have BK567 := Aside0.mk (hbox); have GW567 : Aside0 (w.heap.size ≤ gb567) := bs_ hg zB_; have GE567 := GW567; replace HB := Aside0.mk (below_step zB_ hb); clear hb hbox hg) | (refine bx_ 6 #[.slice A0 l0.length c0, .int .i64 0, .int .u64 0] 74 ?_; intro gb568 hg w9 hbox hb; have NB567_568 := nl_ BK567 z17_3_ hg; have NB568_567 := ns_ NB567_568; replace BK567 := bb_ BK567 z17_3_ hb; have HI568 := Aside0.mk ((⟨_, _, hbox, (by rw [hg]; exact (below_size z17_6_) : w.heap.size ≤ gb568), HR0.out⟩ : IsS74 w w9 gb568 l0 0 0)); replace HB := Aside0.mk (below_step z17_6_ hb); clear hb hbox hg) | ((with_reducible refine gc_ 57 rfl ?_); refine gL_ 8 Tryz.func57 #[.pointer (some ⟨gb568, 0, none⟩), .int .i64 3] ?_; (with_reducible refine (spec_l1Cur_one.calls gb568 l0 0 0 3 true t570 t571 w _ ?side1 ?side2 A2.out).mono ?_); (case side1 => exact zc17_4_); (case side2 => exact zc17_7_); rintro e w10 ⟨rfl, hi, hb, hk⟩; refine ⟨_, rfl, ?_⟩; replace BK567 := Aside0.mk (KeepBut.blk hk (g' := gb567) (o := .cells #[.int .i64 0, .int .i64 0, .int .i64 0] 37 (0, 0)) z17_3_ NB567_568.out (by simp)); replace HB := Aside0.mk (hb); replace HI568 := Aside0.mk (hi)) | ((with_reducible refine gc_ 61 rfl ?_); refine gL_ 10 Tryz.func61 #[.pointer (some ⟨gb568, 0, none⟩), .int .i64 7] ?_; (with_reducible refine (spec_l1Cur_pick.calls gb568 l0 t570 t571 7 t572 t573 t574 w _ ?side1 ?side2 A4.out).mono ?_); (case side1 => exact zc17_4_); (case side2 => exact zc17_7_); rintro e w11 ⟨rfl, hi, hb, hk⟩; refine ⟨_, rfl, ?_⟩; replace BK567 := Aside0.mk (KeepBut.blk hk (g' := gb567) (o := .cells #[.int .i64 0, .int .i64 0, .int .i64 0] 37 (0, 0)) z17_3_ NB567_568.out (by simp)); replace HB := Aside0.mk (hb); replace HI568 := Aside0.mk (hi)) | ((with_reducible refine gc_ 61 rfl ?_); refine gL_ 12 Tryz.func61 #[.pointer (some ⟨gb568, 0, none⟩), .int .i64 9] ?_; (with_reducible refine (spec_l1Cur_pick.calls gb568 l0 t573 t574 9 t575 t576 t577 w _ ?side1 ?side2 A5.out).mono ?_); (case side1 => exact zc17_4_); (case side2 => exact zc17_7_); rintro e w12 ⟨rfl, hi, hb, hk⟩; refine ⟨_, rfl, ?_⟩; replace BK567 := Aside0.mk (KeepBut.blk hk (g' := gb567) (o := .cells #[.int .i64 0, .int .i64 0, .int .i64 0] 37 (0, 0)) z17_3_ NB567_568.out (by simp)); replace HB := Aside0.mk (hb); replace HI568 := Aside0.mk (hi)) | ((with_reducible refine gate_dst (N := 16) rfl ?_); refine Kd.R_lit (Kd.int .i64) _ 3 ?hg (N := 16) ?hd (xs := ([(-1), 0, 0, 1, 2, 3, 4, 4611686018427387904] : List Int)) (inner := [.int .i64 (-1), .int .i64 0, .int .i64 0, .int .i64 1, .int .i64 2, .int .i64 3, .int .i64 4, .int .i64 4611686018427387904]) (ok := fun _ => True) (okp := fun _ => True) ?hr ?hp (fun _ hk => hk) trivial (Below.refl _ _) (Nat.le_refl _) (by simp) ?_; (case hd => rfl); (case hg => rfl); (case hr => exact zc17_11_); (case hp => exact (Reps.one (show Kd.M (Kd.int .i64) _ _ _ (-1) [.int .i64 (-1)] from rfl) (Reps.one (show Kd.M (Kd.int .i64) _ _ _ 0 [.int .i64 0] from rfl) (Reps.one (show Kd.M (Kd.int .i64) _ _ _ 0 [.int .i64 0] from rfl) (Reps.one (show Kd.M (Kd.int .i64) _ _ _ 1 [.int .i64 1] from rfl) (Reps.one (show Kd.M (Kd.int .i64) _ _ _ 2 [.int .i64 2] from rfl) (Reps.one (show Kd.M (Kd.int .i64) _ _ _ 3 [.int .i64 3] from rfl) (Reps.one (show Kd.M (Kd.int .i64) _ _ _ 4 [.int .i64 4] from rfl) (Reps.one (show Kd.M (Kd.int .i64) _ _ _ 4611686018427387904 [.int .i64 4611686018427387904] from rfl) (Reps.none _ _)))))))))); intro v579 w13 ho14 hb hg_ hnew_; clear hg_ hnew_; (first | rw [← Ny578.out] at ho14 | (simp only [Int.reduceToNat] at ho14; rw [← Ny578.out] at ho14)); have HO580 := Aside0.mk (Kd.R_lower ho14 (below_size z17_5_)); replace BK567 := bb_ BK567 z17_3_ hb; replace HB := Aside0.mk (below_step z17_5_ hb); replace HI568 := Aside0.mk (IsS74.below z17_12_ hb); clear hb ho14; obtain ⟨Ao15, co15, eo15⟩ := Kd.R_slice HO580.out; subst eo15) | ((with_reducible refine gc_ 59 rfl ?_); refine gL_ 17 Tryz.func59 #[.pointer (some ⟨gb568, 0, none⟩), .slice Ao15 y578.length co15] ?_; (with_reducible refine (spec_l1Cur_among.calls gb568 l0 t576 t577 _ _ y578 t581 t582 t583 w _ ?side1 ?side2 ?side3 ?side4 ?side5 A6.out).mono ?_); (case side1 => exact zc17_4_); (case side2 => exact zc17_7_); (case side3 => repeat (first | exact (Kd.R_reads' HO580.out).2.2 | (with_reducible refine Kd.C_alloc ?_ _) | (with_reducible refine Kd.C_drewN ?_ _) | (with_reducible refine Kd.C_drew ?_))); (case side4 => exact (Kd.R_reads' HO580.out).2.1); (case side5 => exact far_slice (IsS74.own_ne HI568.out HO580.out (by decide))); rintro e w16 ⟨rfl, hi, hb, hk⟩; refine ⟨_, rfl, ?_⟩; replace BK567 := Aside0.mk (KeepBut.blk hk (g' := gb567) (o := .cells #[.int .i64 0, .int .i64 0, .int .i64 0] 37 (0, 0)) z17_3_ NB567_568.out (by simp)); replace HO580 := Aside0.mk (Kd.R_mono (Kd.R_keep (IsS74.apart (show IsS74 w _ gb568 l0 t576 t577 from by repeat (first | (with_reducible first | exact HI568.out | apply IsS74.alloc | apply IsS74.drewN | apply IsS74.drew | apply IsS74.set_1 | apply IsS74.set_2 | refine IsS74.far ?_ NB568_567.out _) | exact HI568.out)) z17_10_ (by decide)) hk (fun _ h => h.2)) (fun _ h => h.1)); replace HB := Aside0.mk (hb); replace HI568 := Aside0.mk (hi)) | ((with_reducible refine gate_dst (N := 19) rfl ?_); refine Kd.R_lit (Kd.int .i64) _ 3 ?hg (N := 19) ?hd (xs := ([(-1), 0, 1, 2, 9, 10, 20, 21] : List Int)) (inner := [.int .i64 (-1), .int .i64 0, .int .i64 1, .int .i64 2, .int .i64 9, .int .i64 10, .int .i64 20, .int .i64 21]) (ok := fun _ => True) (okp := fun _ => True) ?hr ?hp (fun _ hk => hk) trivial (Below.refl _ _) (Nat.le_refl _) (by simp) ?_; (case hd => rfl); (case hg => rfl); (case hr => exact zc17_11_); (case hp => exact (Reps.one (show Kd.M (Kd.int .i64) _ _ _ (-1) [.int .i64 (-1)] from rfl) (Reps.one (show Kd.M (Kd.int .i64) _ _ _ 0 [.int .i64 0] from rfl) (Reps.one (show Kd.M (Kd.int .i64) _ _ _ 1 [.int .i64 1] from rfl) (Reps.one (show Kd.M (Kd.int .i64) _ _ _ 2 [.int .i64 2] from rfl) (Reps.one (show Kd.M (Kd.int .i64) _ _ _ 9 [.int .i64 9] from rfl) (Reps.one (show Kd.M (Kd.int .i64) _ _ _ 10 [.int .i64 10] from rfl) (Reps.one (show Kd.M (Kd.int .i64) _ _ _ 20 [.int .i64 20] from rfl) (Reps.one (show Kd.M (Kd.int .i64) _ _ _ 21 [.int .i64 21] from rfl) (Reps.none _ _)))))))))); intro v585 w17 ho18 hb hg_ hnew_; clear hg_ hnew_; (first | rw [← Ny584.out] at ho18 | (simp only [Int.reduceToNat] at ho18; rw [← Ny584.out] at ho18)); have HO586 := Aside0.mk (Kd.R_lower (Kd.R_new' ho18 (Kd.R_lt z17_10_)) (below_size z17_5_)); replace HO580 := Aside0.mk (Kd.R_elder' z17_10_ (Kd.R_base ho18) hb); replace BK567 := bb_ BK567 z17_3_ hb; replace HB := Aside0.mk (below_step z17_5_ hb); replace HI568 := Aside0.mk (IsS74.below z17_12_ hb); clear hb ho18; obtain ⟨Ao19, co19, eo19⟩ := Kd.R_slice HO586.out; subst eo19) | ((with_reducible refine gc_ 59 rfl ?_); refine gL_ 20 Tryz.func59 #[.pointer (some ⟨gb568, 0, none⟩), .slice Ao19 y584.length co19] ?_; (with_reducible refine (spec_l1Cur_among.calls gb568 l0 t582 t583 _ _ y584 t587 t588 t589 w _ ?side1 ?side2 ?side3 ?side4 ?side5 A7.out).mono ?_); (case side1 => exact zc17_4_); (case side2 => exact zc17_7_); (case side3 => repeat (first | exact (Kd.R_reads' HO586.out).2.2 | (with_reducible refine Kd.C_alloc ?_ _) | (with_reducible refine Kd.C_drewN ?_ _) | (with_reducible refine Kd.C_drew ?_))); (case side4 => exact (Kd.R_reads' HO586.out).2.1); (case side5 => exact far_slice (IsS74.own_ne HI568.out HO586.out (by decide))); rintro e w20 ⟨rfl, hi, hb, hk⟩; refine ⟨_, rfl, ?_⟩; replace BK567 := Aside0.mk (KeepBut.blk hk (g' := gb567) (o := .cells #[.int .i64 0, .int .i64 0, .int .i64 0] 37 (0, 0)) z17_3_ NB567_568.out (by simp)); replace HO580 := Aside0.mk (Kd.R_mono (Kd.R_keep (IsS74.apart (show IsS74 w _ gb568 l0 t582 t583 from by repeat (first | (with_reducible first | exact HI568.out | apply IsS74.alloc | apply IsS74.drewN | apply IsS74.drew | apply IsS74.set_1 | apply IsS74.set_2 | refine IsS74.far ?_ NB568_567.out _) | exact HI568.out)) z17_10_ (by decide)) hk (fun _ h => h.2)) (fun _ h => h.1)); replace HO586 := Aside0.mk (Kd.R_mono (Kd.R_keep (IsS74.apart (show IsS74 w _ gb568 l0 t582 t583 from by repeat (first | (with_reducible first | exact HI568.out | apply IsS74.alloc | apply IsS74.drewN | apply IsS74.drew | apply IsS74.set_1 | apply IsS74.set_2 | refine IsS74.far ?_ NB568_567.out _) | exact HI568.out)) (rr_ HO586.out) (by decide)) hk (fun _ h => h.2)) (fun _ h => h.1)); replace HB := Aside0.mk (hb); replace HI568 := Aside0.mk (hi); have hnb21 := NB567_568.out; have hnc21 := NB568_567.out; have hcz22_0 : w20.cell? ⟨gb567, 0, none⟩ = some (.int .i64 0) := (blk_cell BK567.out 0).trans rfl; have hcz22_1 : w20.cell? ⟨gb567, 1, none⟩ = some (.int .i64 0) := (blk_cell BK567.out 1).trans rfl; have hcz22_2 : w20.cell? ⟨gb567, 2, none⟩ = some (.int .i64 0) := (blk_cell BK567.out 2).trans rfl; have hfz22_0 := blk_frozen BK567.out 0; have hfz22_1 := blk_frozen BK567.out 1; have hfz22_2 := blk_frozen BK567.out 2))
   refine bodyPost_ret (results_cell_row rfl _ _ gb567 37 #[.int .i64 (wrap64 (t572 - (wrap64 (Int.tdiv t575 8)))), .int .i64 t581, .int .i64 t587] (0, 0) _ rfl (by refine b_ ?_; refine blk_put (cs := #[.int .i64 (wrap64 (t572 - (wrap64 (Int.tdiv t575 8)))), .int .i64 t581, .int .i64 0]) ?_ 2 _ rfl; refine b_ ?_; refine blk_put (cs := #[.int .i64 (wrap64 (t572 - (wrap64 (Int.tdiv t575 8)))), .int .i64 0, .int .i64 0]) ?_ 1 _ rfl; refine b_ ?_; refine blk_put (cs := #[.int .i64 0, .int .i64 0, .int .i64 0]) ?_ 0 _ rfl; exact b_ BK567.out) Tryz.underlying37 rfl (by kernel_rfl)) rfl ?_
   exact ⟨zR_, by repeat (first | (with_reducible first | exact HB.out | apply below_alloc | apply pw_below_drewN | apply below_drew1 | refine below_set ?_ (IsS74.ge HI568.out) | refine below_set ?_ GE567.out) | exact HB.out)⟩
 replace H := bf_ c3 H; obtain ⟨rfl, H⟩ := H
 replace H := bd_ H; obtain ⟨⟨t590, t591, t592, t593, t594⟩, A23, H⟩ := H
 dsimp only at H
 simp only [Option.some.injEq, Prod.mk.injEq] at H
 obtain ⟨rfl, rfl, rfl⟩ := H
 go_enter Tryz.func30, Tryz.ntmps30
 go_wp2_with (first | (refine bx_ 2 #[.int .i64 0, .int .i64 0, .int .i64 0] 37 ?_; intro gb567 hg w24 hbox hb; have BK567 := Aside0.mk (hbox); have GW567 : Aside0 (w.heap.size ≤ gb567) := bs_ hg zB_; have GE567 := GW567; replace HB := Aside0.mk (below_step zB_ hb); clear hb hbox hg) | (refine bx_ 6 #[.slice A0 l0.length c0, .int .i64 0, .int .u64 0] 74 ?_; intro gb568 hg w25 hbox hb; have NB567_568 := nl_ BK567 z17_3_ hg; have NB568_567 := ns_ NB567_568; replace BK567 := bb_ BK567 z17_3_ hb; have HI568 := Aside0.mk ((⟨_, _, hbox, (by rw [hg]; exact (below_size z17_6_) : w.heap.size ≤ gb568), HR0.out⟩ : IsS74 w w25 gb568 l0 0 0)); replace HB := Aside0.mk (below_step z17_6_ hb); clear hb hbox hg) | ((with_reducible refine gc_ 57 rfl ?_); refine gL_ 8 Tryz.func57 #[.pointer (some ⟨gb568, 0, none⟩), .int .i64 3] ?_; (with_reducible refine (spec_l1Cur_one.calls gb568 l0 0 0 3 false t570 t571 w _ ?side1 ?side2 A2.out).mono ?_); (case side1 => exact zc17_4_); (case side2 => exact zc17_7_); rintro e w26 ⟨rfl, hi, hb, hk⟩; refine ⟨_, rfl, ?_⟩; replace BK567 := Aside0.mk (KeepBut.blk hk (g' := gb567) (o := .cells #[.int .i64 0, .int .i64 0, .int .i64 0] 37 (0, 0)) z17_3_ NB567_568.out (by simp)); replace HB := Aside0.mk (hb); replace HI568 := Aside0.mk (hi)) | ((with_reducible refine gc_ 84 rfl ?_); refine gL_ 23 Tryz.func84 #[.pointer (some ⟨gb568, 0, none⟩)] ?_; (with_reducible refine (spec_l1Cur_clue.calls k gb568 l0 t570 t571 t590 t591 t592 t593 t594 w _ ?side1 ?side2 A23.out).mono ?_); (case side1 => exact zc17_4_); (case side2 => exact zc17_7_); rintro e w27 ⟨rfl, hi, hb, hk⟩; refine ⟨_, rfl, ?_⟩; replace BK567 := Aside0.mk (KeepBut.blk hk (g' := gb567) (o := .cells #[.int .i64 0, .int .i64 0, .int .i64 0] 37 (0, 0)) z17_3_ NB567_568.out (by simp)); replace HB := Aside0.mk (hb); replace HI568 := Aside0.mk (hi); have hnb28 := NB567_568.out; have hnc28 := NB568_567.out; have hcz29_0 : w27.cell? ⟨gb567, 0, none⟩ = some (.int .i64 0) := (blk_cell BK567.out 0).trans rfl; have hcz29_1 : w27.cell? ⟨gb567, 1, none⟩ = some (.int .i64 0) := (blk_cell BK567.out 1).trans rfl; have hcz29_2 : w27.cell? ⟨gb567, 2, none⟩ = some (.int .i64 0) := (blk_cell BK567.out 2).trans rfl; have hfz29_0 := blk_frozen BK567.out 0; have hfz29_1 := blk_frozen BK567.out 1; have hfz29_2 := blk_frozen BK567.out 2))
 refine bodyPost_ret (results_cell_row rfl _ _ gb567 37 #[.int .i64 t590, .int .i64 t591, .int .i64 t592] (0, 0) _ rfl (by refine b_ ?_; refine blk_put (cs := #[.int .i64 t590, .int .i64 t591, .int .i64 0]) ?_ 2 _ rfl; refine b_ ?_; refine blk_put (cs := #[.int .i64 t590, .int .i64 0, .int .i64 0]) ?_ 1 _ rfl; refine b_ ?_; refine blk_put (cs := #[.int .i64 0, .int .i64 0, .int .i64 0]) ?_ 0 _ rfl; exact b_ BK567.out) Tryz.underlying37 rfl (by kernel_rfl)) rfl ?_
 exact ⟨zR_, by repeat (first | (with_reducible first | exact HB.out | apply below_alloc | apply pw_below_drewN | apply below_drew1 | refine below_set ?_ (IsS74.ge HI568.out) | refine below_set ?_ GE567.out) | exact HB.out)⟩

/-! ### spec_IsClue: function 32 -/
def spec_IsClue.f (a0_0 : Int) (a0_1 : Int) (a0_2 : Int) : Option (Bool) := (spec_pzClue.f a0_0 a0_1 a0_2).bind fun t596 => (some t596)
set_option maxHeartbeats 8000000 in
set_option maxRecDepth 100000 in
theorem spec_IsClue.calls (a0_0 : Int) (a0_1 : Int) (a0_2 : Int) (r : Bool) (w : World) (h : spec_IsClue.f a0_0 a0_1 a0_2 = some r) :
 Calls Tryz.prog 32 #[.agg #[.int .i64 a0_0, .int .i64 a0_1, .int .i64 a0_2]] w fun e w' => e = .returned (.bool r) ∧ Below w.heap.size w w' := by
 have hu37 := Tryz.underlying37
 have HB := Aside0.mk (Below.refl w.heap.size w)
 unfold spec_IsClue.f at h
 have H := h
 clear h
 replace H := bd_ H; obtain ⟨t596, A2, H⟩ := H
 obtain rfl := Option.some.inj H
 go_enter Tryz.func32, Tryz.ntmps32
 go_wp2_with (first | (refine bx_ 1 #[.int .i64 a0_0, .int .i64 a0_1, .int .i64 a0_2] 37 ?_; intro gb595 hg w3 hbox hb; have BK595 := Aside0.mk (hbox); have GW595 : Aside0 (w.heap.size ≤ gb595) := bs_ hg zB_; have GE595 := GW595; replace HB := Aside0.mk (below_step zB_ hb); clear hb hbox hg; have hcz4_0 : w3.cell? ⟨gb595, 0, none⟩ = some (.int .i64 a0_0) := (blk_cell BK595.out 0).trans rfl; have hcz4_1 : w3.cell? ⟨gb595, 1, none⟩ = some (.int .i64 a0_1) := (blk_cell BK595.out 1).trans rfl; have hcz4_2 : w3.cell? ⟨gb595, 2, none⟩ = some (.int .i64 a0_2) := (blk_cell BK595.out 2).trans rfl; have hfz4_0 := blk_frozen BK595.out 0; have hfz4_1 := blk_frozen BK595.out 1; have hfz4_2 := blk_frozen BK595.out 2) | ((with_reducible refine gc_ 85 rfl ?_); refine gL_ 4 Tryz.func85 #[.agg #[.int .i64 a0_0, .int .i64 a0_1, .int .i64 a0_2]] ?_; (with_reducible refine (spec_pzClue.calls a0_0 a0_1 a0_2 t596 _ A2.out).mono ?_); rintro e w5 ⟨rfl, hb⟩; refine ⟨_, rfl, ?_⟩; replace BK595 := bb_ BK595 (b_ BK595.out) hb; replace HB := Aside0.mk (below_step (by repeat (first | (with_reducible first | exact HB.out | apply below_alloc | apply pw_below_drewN | apply below_drew1 | refine below_set ?_ GE595.out) | exact HB.out)) hb)))
 go_ret
 exact ⟨zR_, by repeat (first | (with_reducible first | exact HB.out | apply below_alloc | apply pw_below_drewN | apply below_drew1 | refine below_set ?_ GE595.out) | exact HB.out)⟩

end Go.Proofs.YtebchgfjfobbbaaGreatDoor.PFnTicketsHidden

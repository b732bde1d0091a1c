-- Laid by this session's program gprint.py over the kit's print.
import Derived.Test.YtmfbjhkhgkphcaaGreatDoorSq
import Derived.Test.YtmfbjhkhgkphcaaGreatDoorZip
import Derived.Test.YtmfbjhkhgkphcaaGreatDoorPFnTicketsGuessedx6
namespace Go.Proofs.YtmfbjhkhgkphcaaGreatDoor.PFnTicketsGuessed
open Go.RowKit Go.Proofs.YtmfbjhkhgkphcaaGreatDoorW.PrintWords Go.Proofs.YtmfbjhkhgkphcaaGreatDoorW.PrintLast Go.Proofs.YtmfbjhkhgkphcaaGreatDoorW.PrintMore
attribute [local go_sem] max2_int min2_int max_two min_two max_three min_three max_four min_four   -- for this text's walks alone
set_option linter.unusedVariables false
set_option linter.unusedSimpArgs false
set_option maxHeartbeats 8000000
set_option maxRecDepth 100000
theorem zs10_0 {p : Prop} (h : p := by repeat (first | (with_reducible first | exact HB.out | apply below_alloc | apply pw_below_drewN | apply below_drew1 | refine below_set ?_ GE229.out) | exact HB.out)) : p := h
theorem zs10_1 {p : Prop} (h : p := by repeat (first | exact Drawn0.refl _ | apply Drawn0.step)) : p := h
theorem zs10_2 {p : Prop} (h : p := by first | rfl | (simp; done) | (simp [*]; done)) : p := h
theorem zs10_3 {p : Prop} (h : p := by have := HK1.out; omega) : p := h
theorem zs10_4 {p : Prop} (h : p := by (with_reducible repeat (first | apply MR_alloc | apply MR_drewN | apply MR_drew)); exact HO0.out) : p := h
theorem zs10_5 {p : Prop} (h : p := by repeat (first | (with_reducible first | exact HK.out | apply Kept.alloc | apply Kept.drewN | apply Kept.drew) | exact HK.out)) : p := h
theorem zs10_6 {p : Prop} (h : p := by (with_reducible repeat (first | apply MR_alloc | apply MR_drewN | apply MR_drew)); exact HO_0.out) : p := h
theorem zs10_7 {p : Prop} (h : p := by repeat (first | (with_reducible first | exact HB.out | apply below_alloc | apply pw_below_drewN | apply below_drew1) | exact HB.out)) : p := h
theorem zs10_8 {p : Prop} (h : p := by have := HK1.out; have := HK2.out; omega) : p := h
theorem zs10_9 {p : Prop} (h : p := by first | rfl | (simp [errW_none, errW_some] <;> rfl) | (simp [*, errW_none, errW_some] <;> rfl)) : p := h
theorem zs10_10 {p : Prop} (h : p := by (try simp only [hl0_1]); (with_reducible repeat (first | apply MR_alloc | apply MR_drewN | apply MR_drew)); exact HO_0.out) : p := h
theorem zs10_11 {p : Prop} (h : p := by repeat (first | (with_reducible first | exact HB.out | apply below_alloc | apply pw_below_drewN | apply below_drew1 | refine below_set ?_ GE254.out) | exact HB.out)) : p := h
theorem zs10_12 {p : Prop} (h : p := by repeat (first | (with_reducible first | exact HB.out | apply below_alloc | apply pw_below_drewN | apply below_drew1 | refine below_set ?_ GE257.out) | exact HB.out)) : p := h
theorem zs10_13 {p : Prop} (h : p := by first | exact Kd.R_nil _ _ _ _ _ | exact Kd.N_nil _ _ _ _ _ | exact Kd.V_nil _ _ _ _ _ | exact Kd.Q_nil _ _ _ _ _ | exact Kd.S_nil _ _ _ _ _) : p := h
theorem zs10_14 {p : Prop} (h : p := by repeat (first | (with_reducible first | exact HB.out | apply below_alloc | apply pw_below_drewN | apply below_drew1 | refine below_set ?_ GE262.out) | exact HB.out)) : p := h
theorem zs10_15 {p : Prop} (h : p := by repeat (first | (with_reducible first | exact HB.out | apply below_alloc | apply pw_below_drewN | apply below_drew1 | refine below_set ?_ GE268.out) | exact HB.out)) : p := h
theorem zs10_16 {p : Prop} (h : p := by repeat (first | (with_reducible first | exact HB.out | apply below_alloc | apply pw_below_drewN | apply below_drew1 | refine below_set ?_ GE268.out | refine below_set ?_ GE270.out) | exact HB.out)) : p := h
theorem zs10_17 {p : Prop} (h : p := by repeat (first | (with_reducible first | exact HB.out | apply below_alloc | apply pw_below_drewN | apply below_drew1 | refine below_set ?_ GE272.out) | exact HB.out)) : p := h
theorem zs10_18 {p : Prop} (h : p := by repeat (first | (with_reducible first | exact HB.out | apply below_alloc | apply pw_below_drewN | apply below_drew1 | refine below_set ?_ GE275.out) | exact HB.out)) : p := h
theorem zs10_19 {p : Prop} (h : p := by repeat (first | (with_reducible first | exact HB.out | apply below_alloc | apply pw_below_drewN | apply below_drew1 | refine below_set ?_ GE285.out) | exact HB.out)) : p := h
theorem zs10_20 {p : Prop} (h : p := by repeat (first | (with_reducible first | exact HB.out | apply below_alloc | apply pw_below_drewN | apply below_drew1 | refine below_set ?_ GE290.out) | exact HB.out)) : p := h
theorem zq10_0_ {p : Prop} (h : p := by (try simp only [List.map_toArray, List.map_cons, List.map_nil]); first | done | (simp only [hji8]; rfl) | rfl | (simp only [List.length_drop, List.length_take]; rfl)) : p := h
theorem zc10_0_ {p : Prop} (h : p := by repeat (first | exact (Kd.C_below HR0_0.out HB.out) | (with_reducible refine Kd.C_alloc ?_ _) | (with_reducible refine Kd.C_drewN ?_ _) | (with_reducible refine Kd.C_drew ?_))) : p := h
theorem z7_0_ {p : Prop} (h : p := by (try simp only [List.map_toArray, List.map_cons, List.map_nil]); first | done | rfl | (simp only [List.length_drop, List.length_take]; rfl)) : p := h

/-! ### impl_IsClue: function 48 -/
def impl_IsClue.j0 : Nat → Int → Int → Int → Int → Bool → Int → Int → Int → Option (Bool)
 | 0, _, _, _, _, _, _, _, _ => none
 | k + 1, x3, x4, x5, x16, x17, x230000, x230001, x230002 => if x17 = true then ((impl_within.f x230001 0 x3).bind fun t235 => (if t235 = true then ((impl_within.f x230002 x4 1).bind fun t236 => (some t236)) else (some false))) else (if x16 = 5 then ((impl_within.f x230001 0 x3).bind fun t237 => (if t237 = true then ((impl_within.f x230002 2 9).bind fun t238 => (some t238)) else (some false))) else ((impl_within.f x230001 0 x3).bind fun t239 => (if t239 = true then ((impl_within.f x230002 x4 x5).bind fun t240 => (some t240)) else (some false))))
def impl_IsClue.f (k : Nat) (a0_0 : Int) (a0_1 : Int) (a0_2 : Int) : Option (Bool) := (impl_within.f a0_0 0 5).bind fun t230 => (if t230 = true then ((some (([1, 3, 0, 2, 0, 0] : List Int) : List Int)).bind fun y231 => (if 0 ≤ a0_0 then (if a0_0 < (y231.length : Int) then (if a0_0 = 2 then (impl_IsClue.j0 k (rd y231 a0_0) 0 20 a0_0 (a0_0 == 2) a0_0 a0_1 a0_2) else (impl_IsClue.j0 k (rd y231 a0_0) 0 20 a0_0 (a0_0 == 3) a0_0 a0_1 a0_2)) else (none)) else (none))) else (some false))
theorem impl_IsClue.mono_l : ∀ k, (∀ y0 y1 y2 y3 y4 y5 y6 y7, LeO (impl_IsClue.j0 k y0 y1 y2 y3 y4 y5 y6 y7) (impl_IsClue.j0 (k + 1) y0 y1 y2 y3 y4 y5 y6 y7))
 | 0 => fun _ _ _ _ _ _ _ _ r h => by simp [impl_IsClue.j0] at h
 | k + 1 => by
  have ih0 := impl_IsClue.mono_l k
  intro y0 y1 y2 y3 y4 y5 y6 y7
  unfold impl_IsClue.j0
  have m1_ := @ih0
  exact zM_
theorem impl_IsClue.mono : ∀ a0 a1 a2 k, LeO (impl_IsClue.f k a0 a1 a2) (impl_IsClue.f (k + 1) a0 a1 a2) := by
 intro a0 a1 a2 k
 have ih0 := impl_IsClue.mono_l k
 unfold impl_IsClue.f
 have m1_ := @ih0
 exact zM_
theorem impl_IsClue.calls (k : Nat) (a0_0 : Int) (a0_1 : Int) (a0_2 : Int) (r : Bool) (w : World) (h : impl_IsClue.f k a0_0 a0_1 a0_2 = some r) :
 Calls Tryz.prog 48 #[.agg #[.int .i64 a0_0, .int .i64 a0_1, .int .i64 a0_2]] w fun e w' => e = .returned (.bool r) ∧ Below w.heap.size w w' := by
 have hu46 := Tryz.underlying46
 have HB := Aside0.mk (Below.refl w.heap.size w)
 unfold impl_IsClue.f at h
 have H := h
 clear h
 replace H := bd_ H; obtain ⟨t230, A2, H⟩ := H
 by_cases c3 : t230 = true
 rotate_left
 · replace H := bf_ c3 H; obtain ⟨rfl, H⟩ := H
   obtain rfl := Option.some.inj H
   go_enter Tryz.func48, Tryz.ntmps48
   go_wp2_with (first | (refine bx_ 1 #[.int .i64 a0_0, .int .i64 a0_1, .int .i64 a0_2] 46 ?_; intro gb229 hg w31 hbox hb; have BK229 := Aside0.mk (hbox); have GW229 : Aside0 (w.heap.size ≤ gb229) := bs_ hg zB_; have GE229 := GW229; replace HB := Aside0.mk (below_step zB_ hb); clear hb hbox hg; have hcz32_0 : w31.cell? ⟨gb229, 0, none⟩ = some (.int .i64 a0_0) := (blk_cell BK229.out 0).trans rfl; have hcz32_1 : w31.cell? ⟨gb229, 1, none⟩ = some (.int .i64 a0_1) := (blk_cell BK229.out 1).trans rfl; have hcz32_2 : w31.cell? ⟨gb229, 2, none⟩ = some (.int .i64 a0_2) := (blk_cell BK229.out 2).trans rfl; have hfz32_0 := blk_frozen BK229.out 0; have hfz32_1 := blk_frozen BK229.out 1; have hfz32_2 := blk_frozen BK229.out 2) | ((with_reducible refine gc_ 52 rfl ?_); refine gL_ 8 Tryz.func52 #[.int .i64 a0_0, .int .i64 0, .int .i64 5] ?_; (with_reducible refine (impl_within.calls a0_0 0 5 false _ A2.out).mono ?_); rintro e w' ⟨rfl, ⟨nd, rfl⟩⟩; refine ⟨_, rfl, ?_⟩))
   go_ret
   exact ⟨zR_, zs10_0⟩
 subst c3
 rw [if_pos rfl] at H
 obtain ⟨y231, hy231⟩ : ∃ y_ : List Int, y_ = (([1, 3, 0, 2, 0, 0] : List Int)) := ⟨_, rfl⟩
 replace H : (if 0 ≤ a0_0 then (if a0_0 < (y231.length : Int) then (if a0_0 = 2 then (impl_IsClue.j0 k (rd y231 a0_0) 0 20 a0_0 (a0_0 == 2) a0_0 a0_1 a0_2) else (impl_IsClue.j0 k (rd y231 a0_0) 0 20 a0_0 (a0_0 == 3) a0_0 a0_1 a0_2)) else (none)) else (none)) = some r := by first | (rw [hy231]; with_reducible exact H) | (have H2_ := (Option.bind_some _ _).symm.trans H; rw [hy231]; with_reducible exact H2_) | (have H2_ := (Option.bind_some _ _).symm.trans H; with_reducible exact H2_) | with_reducible exact H | (rw [hy231]; exact H) | exact H
 have Ny231 := Aside0.mk hy231
 clear hy231
 replace H := gd_ H; obtain ⟨c4, H⟩ := H
 have c4b0 : decide (0 ≤ a0_0) = true := decide_eq_true c4
 clear c4
 replace H := gd_ H; obtain ⟨c5, H⟩ := H
 have c5b0 : decide (a0_0 < (y231.length : Int)) = true := decide_eq_true c5
 clear c5
 have HC6 := Aside0.mk H
 clear H
 go_enter Tryz.func48, Tryz.ntmps48
 go_upto_if 17 with (first | (refine bx_ 1 #[.int .i64 a0_0, .int .i64 a0_1, .int .i64 a0_2] 46 ?_; intro gb229 hg w7 hbox hb; have BK229 := Aside0.mk (hbox); have GW229 : Aside0 (w.heap.size ≤ gb229) := bs_ hg zB_; have GE229 := GW229; replace HB := Aside0.mk (below_step zB_ hb); clear hb hbox hg; have hcz8_0 : w7.cell? ⟨gb229, 0, none⟩ = some (.int .i64 a0_0) := (blk_cell BK229.out 0).trans rfl; have hcz8_1 : w7.cell? ⟨gb229, 1, none⟩ = some (.int .i64 a0_1) := (blk_cell BK229.out 1).trans rfl; have hcz8_2 : w7.cell? ⟨gb229, 2, none⟩ = some (.int .i64 a0_2) := (blk_cell BK229.out 2).trans rfl; have hfz8_0 := blk_frozen BK229.out 0; have hfz8_1 := blk_frozen BK229.out 1; have hfz8_2 := blk_frozen BK229.out 2) | ((with_reducible refine gc_ 52 rfl ?_); refine gL_ 8 Tryz.func52 #[.int .i64 a0_0, .int .i64 0, .int .i64 5] ?_; (with_reducible refine (impl_within.calls a0_0 0 5 true _ A2.out).mono ?_); rintro e w' ⟨rfl, ⟨nd, rfl⟩⟩; refine ⟨_, rfl, ?_⟩) | ((with_reducible refine gate_dst (N := 10) rfl ?_); refine Kd.R_lit (Kd.int .i64) _ 3 ?hg (N := 10) ?hd (xs := ([1, 3, 0, 2, 0, 0] : List Int)) (inner := [.int .i64 1, .int .i64 3, .int .i64 0, .int .i64 2, .int .i64 0, .int .i64 0]) (ok := fun _ => True) (okp := fun _ => True) ?hr ?hp (fun _ hk => hk) trivial (Below.refl _ _) (Nat.le_refl _) (by simp) ?_; (case hd => rfl); (case hg => rfl); (case hr => first | (go_simp; done) | (go_simp; rfl)); (case hp => exact (Reps.one (show Kd.M (Kd.int .i64) _ _ _ 1 [.int .i64 1] from rfl) (Reps.one (show Kd.M (Kd.int .i64) _ _ _ 3 [.int .i64 3] from rfl) (Reps.one (show Kd.M (Kd.int .i64) _ _ _ 0 [.int .i64 0] from rfl) (Reps.one (show Kd.M (Kd.int .i64) _ _ _ 2 [.int .i64 2] from rfl) (Reps.one (show Kd.M (Kd.int .i64) _ _ _ 0 [.int .i64 0] from rfl) (Reps.one (show Kd.M (Kd.int .i64) _ _ _ 0 [.int .i64 0] from rfl) (Reps.none _ _)))))))); intro v232 w9 ho10 hb hg_ hnew_; clear hg_ hnew_; (first | rw [← Ny231.out] at ho10 | (simp only [Int.reduceToNat] at ho10; rw [← Ny231.out] at ho10)); have HO233 := Aside0.mk (Kd.R_lower ho10 (below_size (by repeat (first | (with_reducible first | exact HB.out | apply below_alloc | apply pw_below_drewN | apply below_drew1 | refine below_set ?_ GE229.out) | exact HB.out)))); replace BK229 := bb_ BK229 (b_ BK229.out) hb; replace HB := Aside0.mk (below_step (by repeat (first | (with_reducible first | exact HB.out | apply below_alloc | apply pw_below_drewN | apply below_drew1 | refine below_set ?_ GE229.out) | exact HB.out)) hb); clear hb ho10; have hcz11_0 : w9.cell? ⟨gb229, 0, none⟩ = some (.int .i64 a0_0) := (blk_cell BK229.out 0).trans rfl; have hcz11_1 : w9.cell? ⟨gb229, 1, none⟩ = some (.int .i64 a0_1) := (blk_cell BK229.out 1).trans rfl; have hcz11_2 : w9.cell? ⟨gb229, 2, none⟩ = some (.int .i64 a0_2) := (blk_cell BK229.out 2).trans rfl; have hfz11_0 := blk_frozen BK229.out 0; have hfz11_1 := blk_frozen BK229.out 1; have hfz11_2 := blk_frozen BK229.out 2; obtain ⟨Ao12, co12, eo12⟩ := Kd.R_slice HO233.out; subst eo12; have p234 : 0 ≤ (a0_0 : Int) := of_decide_eq_true zS_; have q234 : a0_0 < (y231.length : Int) := of_decide_eq_true zS_; obtain ⟨ad234, e234, hx234_0⟩ := Kd.at_int (Kd.R_reads' HO233.out).2.2 a0_0 p234 q234; cases e234; replace p234 := eq_true p234; replace q234 := eq_true q234))
 (try simp only [Act.put, List.setIfInBounds_toArray, List.set_cons_zero, List.set_cons_succ])
 go_cut [17] (fun v17 wc => ∃ (kq : Nat) (x17_5 : Bool), v17 = .bool x17_5 ∧ Aside0 (impl_IsClue.j0 kq (rd y231 a0_0) 0 20 a0_0 x17_5 a0_0 a0_1 a0_2 = some r) ∧ Aside0 (kq ≤ k) ∧ Aside0 (wc.heap[gb229]? = some (.cells #[.int .i64 a0_0, .int .i64 a0_1, .int .i64 a0_2] 46 (0, 0))) ∧ Aside0 (Below w.heap.size w wc))
 case first =>
  have H := HC6.out
  clear HC6
  by_cases c13 : a0_0 = 2
  · obtain ⟨H, c13b0, c13b1⟩ := ep_ c13 H
    clear c13
    (first | rw [c13b0] | (simp only [i64_w, i32_w]; rw [c13b0]) | skip)
    have H' := Aside0.mk H
    clear H
    go_wp2
    go_meet
    case rel => exact ⟨_, ((a0_0 == 2)), zV_, H', ⟨by first | omega | exact Nat.le_refl _⟩, ⟨b_ BK229.out⟩, ⟨zs10_0⟩⟩
  obtain ⟨H, c13b0, c13b1⟩ := en_ c13 H
  (first | rw [c13b0] | (simp only [i64_w, i32_w]; rw [c13b0]) | skip)
  have H' := Aside0.mk H
  clear H
  go_wp2
  go_meet
  case rel => exact ⟨_, ((a0_0 == 3)), zV_, H', ⟨by first | omega | exact Nat.le_refl _⟩, ⟨b_ BK229.out⟩, ⟨zs10_0⟩⟩
 case rest =>
  clear HC6
  obtain ⟨kq, x17_5, rfl, HA, HJ5, BK229, HB⟩ := hcut
  cases kq with
  | zero => exact absurd HA.out (by simp [impl_IsClue.j0])
  | succ kj5 =>
   have H := HA.out
   clear HA
   simp only [impl_IsClue.j0] at H
   by_cases c14 : x17_5 = true
   · subst c14
     rw [if_pos rfl] at H
     replace H := bd_ H; obtain ⟨t235, A15, H⟩ := H
     by_cases c16 : t235 = true
     · subst c16
       rw [if_pos rfl] at H
       replace H := bd_ H; obtain ⟨t236, A17, H⟩ := H
       obtain rfl := Option.some.inj H
       have hcz18_0 : wc.cell? ⟨gb229, 0, none⟩ = some (.int .i64 a0_0) := (blk_cell BK229.out 0).trans rfl
       have hcz18_1 : wc.cell? ⟨gb229, 1, none⟩ = some (.int .i64 a0_1) := (blk_cell BK229.out 1).trans rfl
       have hcz18_2 : wc.cell? ⟨gb229, 2, none⟩ = some (.int .i64 a0_2) := (blk_cell BK229.out 2).trans rfl
       have hfz18_0 := blk_frozen BK229.out 0
       have hfz18_1 := blk_frozen BK229.out 1
       have hfz18_2 := blk_frozen BK229.out 2
       go_wp2_with (first | ((with_reducible refine gc_ 52 rfl ?_); refine gL_ 25 Tryz.func52 #[.int .i64 a0_1, .int .i64 0, .int .i64 (rd y231 a0_0)] ?_; (with_reducible refine (impl_within.calls a0_1 0 (rd y231 a0_0) true _ A15.out).mono ?_); rintro e w' ⟨rfl, ⟨nd, rfl⟩⟩; refine ⟨_, rfl, ?_⟩) | (go_at_call 52; (with_reducible refine (impl_within.calls a0_2 0 1 t236 _ A17.out).mono ?_); rintro e w' ⟨rfl, ⟨nd, rfl⟩⟩))
       go_ret
       exact ⟨zR_, zs10_0⟩
     replace H := bf_ c16 H; obtain ⟨rfl, H⟩ := H
     obtain rfl := Option.some.inj H
     have hcz19_0 : wc.cell? ⟨gb229, 0, none⟩ = some (.int .i64 a0_0) := (blk_cell BK229.out 0).trans rfl
     have hcz19_1 : wc.cell? ⟨gb229, 1, none⟩ = some (.int .i64 a0_1) := (blk_cell BK229.out 1).trans rfl
     have hcz19_2 : wc.cell? ⟨gb229, 2, none⟩ = some (.int .i64 a0_2) := (blk_cell BK229.out 2).trans rfl
     have hfz19_0 := blk_frozen BK229.out 0
     have hfz19_1 := blk_frozen BK229.out 1
     have hfz19_2 := blk_frozen BK229.out 2
     go_wp2_with (first | ((with_reducible refine gc_ 52 rfl ?_); refine gL_ 25 Tryz.func52 #[.int .i64 a0_1, .int .i64 0, .int .i64 (rd y231 a0_0)] ?_; (with_reducible refine (impl_within.calls a0_1 0 (rd y231 a0_0) false _ A15.out).mono ?_); rintro e w' ⟨rfl, ⟨nd, rfl⟩⟩; refine ⟨_, rfl, ?_⟩))
     go_ret
     exact ⟨zR_, zs10_0⟩
   replace H := bf_ c14 H; obtain ⟨rfl, H⟩ := H
   by_cases c20 : a0_0 = 5
   · obtain ⟨H, c20b0, c20b1⟩ := ep_ c20 H
     clear c20
     replace H := bd_ H; obtain ⟨t237, A21, H⟩ := H
     by_cases c22 : t237 = true
     · subst c22
       rw [if_pos rfl] at H
       replace H := bd_ H; obtain ⟨t238, A23, H⟩ := H
       obtain rfl := Option.some.inj H
       have hcz24_0 : wc.cell? ⟨gb229, 0, none⟩ = some (.int .i64 a0_0) := (blk_cell BK229.out 0).trans rfl
       have hcz24_1 : wc.cell? ⟨gb229, 1, none⟩ = some (.int .i64 a0_1) := (blk_cell BK229.out 1).trans rfl
       have hcz24_2 : wc.cell? ⟨gb229, 2, none⟩ = some (.int .i64 a0_2) := (blk_cell BK229.out 2).trans rfl
       have hfz24_0 := blk_frozen BK229.out 0
       have hfz24_1 := blk_frozen BK229.out 1
       have hfz24_2 := blk_frozen BK229.out 2
       go_wp2_with (first | ((with_reducible refine gc_ 52 rfl ?_); refine gL_ 25 Tryz.func52 #[.int .i64 a0_1, .int .i64 0, .int .i64 (rd y231 a0_0)] ?_; (with_reducible refine (impl_within.calls a0_1 0 (rd y231 a0_0) true _ A21.out).mono ?_); rintro e w' ⟨rfl, ⟨nd, rfl⟩⟩; refine ⟨_, rfl, ?_⟩) | (go_at_call 52; (with_reducible refine (impl_within.calls a0_2 2 9 t238 _ A23.out).mono ?_); rintro e w' ⟨rfl, ⟨nd, rfl⟩⟩))
       go_ret
       exact ⟨zR_, zs10_0⟩
     replace H := bf_ c22 H; obtain ⟨rfl, H⟩ := H
     obtain rfl := Option.some.inj H
     have hcz25_0 : wc.cell? ⟨gb229, 0, none⟩ = some (.int .i64 a0_0) := (blk_cell BK229.out 0).trans rfl
     have hcz25_1 : wc.cell? ⟨gb229, 1, none⟩ = some (.int .i64 a0_1) := (blk_cell BK229.out 1).trans rfl
     have hcz25_2 : wc.cell? ⟨gb229, 2, none⟩ = some (.int .i64 a0_2) := (blk_cell BK229.out 2).trans rfl
     have hfz25_0 := blk_frozen BK229.out 0
     have hfz25_1 := blk_frozen BK229.out 1
     have hfz25_2 := blk_frozen BK229.out 2
     go_wp2_with (first | ((with_reducible refine gc_ 52 rfl ?_); refine gL_ 25 Tryz.func52 #[.int .i64 a0_1, .int .i64 0, .int .i64 (rd y231 a0_0)] ?_; (with_reducible refine (impl_within.calls a0_1 0 (rd y231 a0_0) false _ A21.out).mono ?_); rintro e w' ⟨rfl, ⟨nd, rfl⟩⟩; refine ⟨_, rfl, ?_⟩))
     go_ret
     exact ⟨zR_, zs10_0⟩
   obtain ⟨H, c20b0, c20b1⟩ := en_ c20 H
   replace H := bd_ H; obtain ⟨t239, A26, H⟩ := H
   by_cases c27 : t239 = true
   · subst c27
     rw [if_pos rfl] at H
     replace H := bd_ H; obtain ⟨t240, A28, H⟩ := H
     obtain rfl := Option.some.inj H
     have hcz29_0 : wc.cell? ⟨gb229, 0, none⟩ = some (.int .i64 a0_0) := (blk_cell BK229.out 0).trans rfl
     have hcz29_1 : wc.cell? ⟨gb229, 1, none⟩ = some (.int .i64 a0_1) := (blk_cell BK229.out 1).trans rfl
     have hcz29_2 : wc.cell? ⟨gb229, 2, none⟩ = some (.int .i64 a0_2) := (blk_cell BK229.out 2).trans rfl
     have hfz29_0 := blk_frozen BK229.out 0
     have hfz29_1 := blk_frozen BK229.out 1
     have hfz29_2 := blk_frozen BK229.out 2
     go_wp2_with (first | ((with_reducible refine gc_ 52 rfl ?_); refine gL_ 25 Tryz.func52 #[.int .i64 a0_1, .int .i64 0, .int .i64 (rd y231 a0_0)] ?_; (with_reducible refine (impl_within.calls a0_1 0 (rd y231 a0_0) true _ A26.out).mono ?_); rintro e w' ⟨rfl, ⟨nd, rfl⟩⟩; refine ⟨_, rfl, ?_⟩) | (go_at_call 52; (with_reducible refine (impl_within.calls a0_2 0 20 t240 _ A28.out).mono ?_); rintro e w' ⟨rfl, ⟨nd, rfl⟩⟩))
     go_ret
     exact ⟨zR_, zs10_0⟩
   replace H := bf_ c27 H; obtain ⟨rfl, H⟩ := H
   obtain rfl := Option.some.inj H
   have hcz30_0 : wc.cell? ⟨gb229, 0, none⟩ = some (.int .i64 a0_0) := (blk_cell BK229.out 0).trans rfl
   have hcz30_1 : wc.cell? ⟨gb229, 1, none⟩ = some (.int .i64 a0_1) := (blk_cell BK229.out 1).trans rfl
   have hcz30_2 : wc.cell? ⟨gb229, 2, none⟩ = some (.int .i64 a0_2) := (blk_cell BK229.out 2).trans rfl
   have hfz30_0 := blk_frozen BK229.out 0
   have hfz30_1 := blk_frozen BK229.out 1
   have hfz30_2 := blk_frozen BK229.out 2
   go_wp2_with (first | ((with_reducible refine gc_ 52 rfl ?_); refine gL_ 25 Tryz.func52 #[.int .i64 a0_1, .int .i64 0, .int .i64 (rd y231 a0_0)] ?_; (with_reducible refine (impl_within.calls a0_1 0 (rd y231 a0_0) false _ A26.out).mono ?_); rintro e w' ⟨rfl, ⟨nd, rfl⟩⟩; refine ⟨_, rfl, ?_⟩))
   go_ret
   exact ⟨zR_, zs10_0⟩

/-! ### impl_IsPuzzle_1: function 47 -/
def impl_IsPuzzle_1.f (k : Nat) (a0_0 : Int) (a0_1 : Int) (a0_2 : Int) : Option (Bool) := (impl_IsClue.f k a0_0 a0_1 a0_2).bind fun t242 => (some (!t242))
theorem impl_IsPuzzle_1.mono : ∀ a0 a1 a2 k, LeO (impl_IsPuzzle_1.f k a0 a1 a2) (impl_IsPuzzle_1.f (k + 1) a0 a1 a2) := by
 intro a0 a1 a2 k
 unfold impl_IsPuzzle_1.f
 have m1_ := @impl_IsClue.mono
 exact zM_
theorem impl_IsPuzzle_1.calls (k : Nat) (a0_0 : Int) (a0_1 : Int) (a0_2 : Int) (r : Bool) (w : World) (h : impl_IsPuzzle_1.f k a0_0 a0_1 a0_2 = some r) :
 Calls Tryz.prog 47 #[.agg #[.int .i64 a0_0, .int .i64 a0_1, .int .i64 a0_2]] w fun e w' => e = .returned (.bool r) ∧ Below w.heap.size w w' := by
 have hu46 := Tryz.underlying46
 have HB := Aside0.mk (Below.refl w.heap.size w)
 unfold impl_IsPuzzle_1.f at h
 have H := h
 clear h
 replace H := bd_ H; obtain ⟨t242, A2, H⟩ := H
 obtain rfl := Option.some.inj H
 go_enter Tryz.func47, Tryz.ntmps47
 go_wp2_with (first | (refine bx_ 1 #[.int .i64 a0_0, .int .i64 a0_1, .int .i64 a0_2] 46 ?_; intro gb241 hg w3 hbox hb; have BK241 := Aside0.mk (hbox); have GW241 : Aside0 (w.heap.size ≤ gb241) := bs_ hg zB_; have GE241 := GW241; replace HB := Aside0.mk (below_step zB_ hb); clear hb hbox hg; have hcz4_0 : w3.cell? ⟨gb241, 0, none⟩ = some (.int .i64 a0_0) := (blk_cell BK241.out 0).trans rfl; have hcz4_1 : w3.cell? ⟨gb241, 1, none⟩ = some (.int .i64 a0_1) := (blk_cell BK241.out 1).trans rfl; have hcz4_2 : w3.cell? ⟨gb241, 2, none⟩ = some (.int .i64 a0_2) := (blk_cell BK241.out 2).trans rfl; have hfz4_0 := blk_frozen BK241.out 0; have hfz4_1 := blk_frozen BK241.out 1; have hfz4_2 := blk_frozen BK241.out 2) | ((with_reducible refine gc_ 48 rfl ?_); refine gL_ 4 Tryz.func48 #[.agg #[.int .i64 a0_0, .int .i64 a0_1, .int .i64 a0_2]] ?_; (with_reducible refine (impl_IsClue.calls k a0_0 a0_1 a0_2 t242 _ A2.out).mono ?_); rintro e w5 ⟨rfl, hb⟩; refine ⟨_, rfl, ?_⟩; replace BK241 := bb_ BK241 (b_ BK241.out) hb; replace HB := Aside0.mk (below_step (by repeat (first | (with_reducible first | exact HB.out | apply below_alloc | apply pw_below_drewN | apply below_drew1 | refine below_set ?_ GE241.out) | exact HB.out)) hb)))
 go_ret
 exact ⟨zR_, by repeat (first | (with_reducible first | exact HB.out | apply below_alloc | apply pw_below_drewN | apply below_drew1 | refine below_set ?_ GE241.out) | exact HB.out)⟩

/-! ### impl_IsPuzzle: function 26 -/
theorem slices_IndexFunc_clue (p : S46 → Option Bool) (g : FuncId) (fn : Func) (lb : Array Value) (A0 : Option Addr) (c0 : Nat) (l0 : List S46) (b : Bool) (w : World)
 (hr0 : Kd.C k46 w A0 l0.length l0) (hc0 : l0.length ≤ c0)
 (hf : Tryz.prog.funcs[g]? = some fn) (hname : (fn.name == "runtime.NumGoroutine") = false) (hb : fn.body.isSome = true)
 (hp : ∀ x t W, p x = some t → Below w.heap.size w W → Calls Tryz.prog g (#[.agg #[.int .i64 x.f0, .int .i64 x.f1, .int .i64 x.f2]] ++ lb) W fun e W' => e = .returned (.bool t) ∧ Below W.heap.size W W')
 (h : Fn.anyO p l0 = some b) :
 Calls Tryz.prog 68 #[.slice A0 l0.length c0, .func (.func g) #[] lb] w fun e w' => ∃ i : Int, e = .returned (.int .i64 i) ∧ Fn.idxOk b i ∧ Below w.heap.size w w' := by
 have hu := Tryz.underlying46
 have HL := Aside0.mk hr0.2.1
 have HR0 := Aside0.mk hr0
 have HC0 := Aside0.mk hc0
 have HP := Aside0.mk hp
 have HF := Aside0.mk hf
 have HN := Aside0.mk hname
 have HBD := Aside0.mk hb
 have H' := Aside0.mk (show Fn.anyO p (l0.drop 0) = some b from h)
 have HB := Aside0.mk (Below.refl w.heap.size w)
 clear hr0 hc0 hp hf hname hb h
 go_enter Tryz.func68, Tryz.ntmps68
 go_wp2
 go_loopg [8] (l0.length + 1) (fun kq v8 w' => ∃ j : Nat, v8 = .int .i64 (j : Int) ∧ Aside0 (j + kq = l0.length + 1) ∧ Aside0 (Fn.anyO p (l0.drop j) = some b) ∧ Aside0 (Below w.heap.size w w'))
 case atStart => exact ⟨0, rfl, ⟨by omega⟩, H', HB⟩
 case round =>
  clear H' HB
  obtain ⟨j, rfl, HJ, HA, HB⟩ := hrel
  by_cases c : j < l0.length
  · obtain ⟨t, ht, hb⟩ := Fn.anyO_drop p l0 z46 j c b HA.out
    have HT := Aside0.mk (show p (rd_T46 l0 (j : Int)) = some t from ht)
    have HBB := Aside0.mk hb
    clear ht hb HA
    have hl := HL.out
    obtain ⟨ad1, e1, hx0, hx1, hx2⟩ := at_T46 HR0.out (j : Int) (by omega) (by omega)
    cases e1
    simp only [Int.toNat_natCast] at hx0 hx1 hx2
    replace hx0 := (HB.out.cell (World.block_lt_of_cell? w _ hx0)).trans hx0
    replace hx1 := (HB.out.cell (World.block_lt_of_cell? w _ hx1)).trans hx1
    replace hx2 := (HB.out.cell (World.block_lt_of_cell? w _ hx2)).trans hx2
    have p1 : (0 ≤ (j : Int)) = True := eq_true (by omega)
    have q1 : ((j : Int) < (l0.length : Int)) = True := eq_true (by omega)
    have c1 : decide ((j : Int) < (l0.length : Int)) = true := decide_eq_true (by omega)
    have c2 : decide (j < l0.length) = true := decide_eq_true c
    cases t with
    | true =>
     go_wp2_with (first | ((with_reducible refine gate_dst (N := 16) rfl ?_); refine Fn.goesF_ (some 16) rfl rfl HF.out HN.out HBD.out #[.agg #[.int .i64 (rd_T46 l0 (j : Int)).f0, .int .i64 (rd_T46 l0 (j : Int)).f1, .int .i64 (rd_T46 l0 (j : Int)).f2]] rfl (by rfl) (by (try simp only [List.map_toArray, List.map_cons, List.map_nil]); rfl) ?_; (with_reducible refine (HP.out _ true _ HT.out HB.out).mono ?_); rintro e w11 ⟨rfl, hb⟩; refine ⟨_, rfl, ?_⟩; have HB2 := Aside0.mk (below_step HB.out hb); clear hb))
     go_ret
     have hbt : b = true := by
      rcases HBB.out with ⟨_, e⟩ | ⟨e, _⟩
      · exact e
      cases e
     exact ⟨_, rfl, Fn.idxOk_yes hbt (by omega), HB2.out⟩
    | false =>
     go_wp2_with (first | ((with_reducible refine gate_dst (N := 16) rfl ?_); refine Fn.goesF_ (some 16) rfl rfl HF.out HN.out HBD.out #[.agg #[.int .i64 (rd_T46 l0 (j : Int)).f0, .int .i64 (rd_T46 l0 (j : Int)).f1, .int .i64 (rd_T46 l0 (j : Int)).f2]] rfl (by rfl) (by (try simp only [List.map_toArray, List.map_cons, List.map_nil]); rfl) ?_; (with_reducible refine (HP.out _ false _ HT.out HB.out).mono ?_); rintro e w11 ⟨rfl, hb⟩; refine ⟨_, rfl, ?_⟩; have HB2 := Aside0.mk (below_step HB.out hb); clear hb))
     go_roundg (gk - 1)
     case measure => have := HJ.out; omega
     case rel =>
      have hnx : Fn.anyO p (l0.drop (j + 1)) = some b := by
       rcases HBB.out with ⟨e, _⟩ | ⟨_, h⟩
       · cases e
       exact h
      exact ⟨j + 1, by go_num, ⟨by have := HJ.out; omega⟩, ⟨hnx⟩, HB2⟩
  have c1 : decide ((j : Int) < (l0.length : Int)) = false := decide_eq_false (by omega)
  have c2 : decide (j < l0.length) = false := decide_eq_false c
  have hbf : b = false := by
   have h := HA.out
   rw [List.drop_eq_nil_of_le (by omega)] at h
   exact (Option.some.inj h).symm
  have HBF := Aside0.mk hbf
  clear hbf
  go_wp2
  go_ret
  exact ⟨_, rfl, Fn.idxOk_no HBF.out (by omega), HB.out⟩

theorem slices_ContainsFunc_clue (p : S46 → Option Bool) (g : FuncId) (fn : Func) (lb : Array Value) (A0 : Option Addr) (c0 : Nat) (l0 : List S46) (b : Bool) (w : World)
 (hr0 : Kd.C k46 w A0 l0.length l0) (hc0 : l0.length ≤ c0)
 (hf : Tryz.prog.funcs[g]? = some fn) (hname : (fn.name == "runtime.NumGoroutine") = false) (hb : fn.body.isSome = true)
 (hp : ∀ x t W, p x = some t → Below w.heap.size w W → Calls Tryz.prog g (#[.agg #[.int .i64 x.f0, .int .i64 x.f1, .int .i64 x.f2]] ++ lb) W fun e W' => e = .returned (.bool t) ∧ Below W.heap.size W W')
 (h : Fn.anyO p l0 = some b) :
 Calls Tryz.prog 46 #[.slice A0 l0.length c0, .func (.func g) #[] lb] w fun e w' => e = .returned (.bool b) ∧ Below w.heap.size w w' := by
 have HR0 := Aside0.mk hr0
 have HC0 := Aside0.mk hc0
 have HP := Aside0.mk hp
 have HF := Aside0.mk hf
 have HN := Aside0.mk hname
 have HBD := Aside0.mk hb
 have H := Aside0.mk h
 clear hr0 hc0 hp hf hname hb h
 cases b with
 | true =>
  go_enter Tryz.func46, Tryz.ntmps46
  go_wp2_with (first | (go_at_call 68; (with_reducible refine (slices_IndexFunc_clue p g fn lb A0 c0 l0 true w HR0.out HC0.out HF.out HN.out HBD.out HP.out H.out).mono ?_); rintro e w1 ⟨i, rfl, hi, hb⟩; have hi2 : 0 ≤ i := Fn.idxOk_true hi; clear hi; have hi3 : decide (0 ≤ i) = true := decide_eq_true hi2; have HB := Aside0.mk hb; clear hb))
  go_ret
  exact ⟨rfl, HB.out⟩
 | false =>
  go_enter Tryz.func46, Tryz.ntmps46
  go_wp2_with (first | (go_at_call 68; (with_reducible refine (slices_IndexFunc_clue p g fn lb A0 c0 l0 false w HR0.out HC0.out HF.out HN.out HBD.out HP.out H.out).mono ?_); rintro e w1 ⟨i, rfl, hi, hb⟩; have hi2 : i < 0 := Fn.idxOk_false hi; clear hi; have hi3 : decide (0 ≤ i) = false := decide_eq_false (by omega); have HB := Aside0.mk hb; clear hb))
  go_ret
  exact ⟨rfl, HB.out⟩
def impl_IsPuzzle.f (k : Nat) (l0_0 : List S46) : Option Bool := if (l0_0.length : Int) ≤ 6 then (Fn.anyO (fun x => impl_IsPuzzle_1.f k x.f0 x.f1 x.f2) l0_0).bind fun t => some (!t) else some false
theorem impl_IsPuzzle.mono : ∀ a0 k, LeO (impl_IsPuzzle.f k a0) (impl_IsPuzzle.f (k + 1) a0) := by
 intro a0 k r h
 unfold impl_IsPuzzle.f at h ⊢
 by_cases c : (a0.length : Int) ≤ 6
 · rw [if_pos c] at h ⊢
   obtain ⟨t, ht, h⟩ := Option.bind_eq_some_iff.mp h
   rw [Fn.anyO_le (fun x r hr => impl_IsPuzzle_1.mono _ _ _ _ r hr) a0 t ht]
   exact h
 rw [if_neg c] at h ⊢
 exact h
theorem impl_IsPuzzle.calls (k : Nat) (A0_0 : Option Addr) (c0_0 : Nat) (l0_0 : List (S46)) (r : Bool) (w : World) (hr0_0 : Kd.C k46 w A0_0 l0_0.length l0_0) (hc0_0 : l0_0.length ≤ c0_0) (h : impl_IsPuzzle.f k l0_0 = some r) :
 Calls Tryz.prog 26 #[.agg #[.slice A0_0 l0_0.length c0_0]] w fun e w' => e = .returned (.bool r) ∧ Below w.heap.size w w' := by
 have hu := Tryz.underlying26
 have HR0 := Aside0.mk hr0_0
 have HC0 := Aside0.mk hc0_0
 have HB := Aside0.mk (Below.refl w.heap.size w)
 have HP : Aside0 (∀ (x : S46) (t : Bool) (W : World), (fun x : S46 => impl_IsPuzzle_1.f k x.f0 x.f1 x.f2) x = some t → Calls Tryz.prog 47 (#[.agg #[.int .i64 x.f0, .int .i64 x.f1, .int .i64 x.f2]] ++ #[]) W fun e W' => e = .returned (.bool t) ∧ Below W.heap.size W W') := ⟨fun x t W hx => impl_IsPuzzle_1.calls k x.f0 x.f1 x.f2 t W hx⟩
 unfold impl_IsPuzzle.f at h
 by_cases c : (l0_0.length : Int) ≤ 6
 · rw [if_pos c] at h
   obtain ⟨t, ht, h⟩ := Option.bind_eq_some_iff.mp h
   obtain rfl := Option.some.inj h
   have HT := Aside0.mk ht
   have c1 : decide ((l0_0.length : Int) ≤ 6) = true := decide_eq_true c
   have c2 : decide (l0_0.length ≤ 6) = true := decide_eq_true (by omega)
   clear h ht hr0_0 hc0_0
   go_enter Tryz.func26, Tryz.ntmps26
   go_wp2_with (first | (refine bx_ 1 #[.slice A0_0 l0_0.length c0_0] 26 ?_; intro g1 hg w5 hbox hb; have HB1 := Aside0.mk (below_step HB.out hb); have hz : w5.cell? ⟨g1, 0, none⟩ = some (.slice A0_0 l0_0.length c0_0) := (blk_cell hbox 0).trans rfl; have HBW := Aside0.mk hb; clear hb hbox hg) | (go_at_call 46; (with_reducible refine (slices_ContainsFunc_clue (fun x => impl_IsPuzzle_1.f k x.f0 x.f1 x.f2) 47 _ #[] A0_0 c0_0 l0_0 t _ (Kd.C_below HR0.out HBW.out) HC0.out Tryz.func47 (by kernel_rfl) rfl (fun x t W hx _ => HP.out x t W hx) HT.out).mono ?_); rintro e w1 ⟨rfl, hb⟩; have HB2 := Aside0.mk (below_step HB1.out hb); clear hb))
   go_ret
   exact ⟨rfl, HB2.out⟩
 rw [if_neg c] at h
 obtain rfl := Option.some.inj h
 have c1 : decide ((l0_0.length : Int) ≤ 6) = false := decide_eq_false c
 have c2 : decide (l0_0.length ≤ 6) = false := decide_eq_false (by omega)
 clear h hr0_0 hc0_0
 go_enter Tryz.func26, Tryz.ntmps26
 go_wp2_with (first | (refine bx_ 1 #[.slice A0_0 l0_0.length c0_0] 26 ?_; intro g1 hg w5 hbox hb; have HB1 := Aside0.mk (below_step HB.out hb); have hz : w5.cell? ⟨g1, 0, none⟩ = some (.slice A0_0 l0_0.length c0_0) := (blk_cell hbox 0).trans rfl; clear hb hbox hg))
 go_ret
 exact ⟨rfl, HB1.out⟩

/-! ### impl_numberOf: function 70 -/
def impl_numberOf.l0 : Nat → ByteArray → Int → Int → Int → Option (Int)
 | 0, _, _, _, _ => none
 | k + 1, x0, x3, x6, x7 => if x7 < x6 then (if 0 ≤ x7 then (if x7 < (x0.size : Int) then (impl_numberOf.l0 k x0 (wrap64 ((wrap64 (10 * x3)) + (((bt x0 x7) - 48) % 256))) x6 (wrap64 (x7 + 1))) else (none)) else (none)) else (some x3)
def impl_numberOf.f (k : Nat) (a0 : ByteArray) : Option (Int) := impl_numberOf.l0 k a0 0 (a0.size : Int) 0
theorem impl_numberOf.mono_l : ∀ k, (∀ y0 y1 y2 y3, LeO (impl_numberOf.l0 k y0 y1 y2 y3) (impl_numberOf.l0 (k + 1) y0 y1 y2 y3))
 | 0 => fun _ _ _ _ r h => by simp [impl_numberOf.l0] at h
 | k + 1 => by
  have ih0 := impl_numberOf.mono_l k
  intro y0 y1 y2 y3
  unfold impl_numberOf.l0
  have m1_ := @ih0
  exact zM_
theorem impl_numberOf.mono : ∀ a0 k, LeO (impl_numberOf.f k a0) (impl_numberOf.f (k + 1) a0) := by
 intro a0 k
 have ih0 := impl_numberOf.mono_l k
 unfold impl_numberOf.f
 have m1_ := @ih0
 exact zM_
theorem impl_numberOf.calls (k : Nat) (a0 : ByteArray) (r : Int) (w : World) (h : impl_numberOf.f k a0 = some r) :
 Calls Tryz.prog 70 #[.string a0] w fun e w' => e = .returned (.int .i64 r) ∧ Drawn0 w w' := by
 unfold impl_numberOf.f at h
 have H := h
 clear h
 have H' := Aside0.mk H
 clear H
 go_enter Tryz.func70, Tryz.ntmps70
 go_wp2
 go_loopg [3, 7] k (fun kq v3 v7 w' => ∃ (x3_1 : Int) (x7_1 : Int), v3 = .int .i64 x3_1 ∧ v7 = .int .i64 x7_1 ∧ Aside0 (impl_numberOf.l0 kq a0 x3_1 (a0.size : Int) x7_1 = some r) ∧ Aside0 (kq ≤ k) ∧ Drawn0 w w')
 case atStart => exact ⟨(0), (0), zV_, zV_, H', ⟨Nat.le_refl _⟩, zs10_1⟩
 case round =>
  clear H'
  obtain ⟨x3_1, x7_1, rfl, rfl, HA, HK1, ⟨m1, rfl⟩⟩ := hrel
  cases gk with
  | zero => exact absurd HA.out (by simp [impl_numberOf.l0])
  | succ k1 =>
   have H := HA.out
   clear HA
   simp only [impl_numberOf.l0] at H
   by_cases c2 : x7_1 < (a0.size : Int)
   rotate_left
   · rw [if_neg c2] at H
     have c2b0 := decide_eq_false c2
     clear c2
     obtain rfl := Option.some.inj H
     go_wp2
     go_ret
     exact ⟨zs10_2, zs10_1⟩
   rw [if_pos c2] at H
   have c2b0 := decide_eq_true c2
   clear c2
   replace H := gd_ H; obtain ⟨c3, H⟩ := H
   have c3b0 : decide (0 ≤ x7_1) = true := decide_eq_true c3
   clear c3
   replace H := gd_ H; obtain ⟨c4, H⟩ := H
   have c4b0 : decide (x7_1 < (a0.size : Int)) = true := decide_eq_true c4
   clear c4
   have H' := Aside0.mk H
   clear H
   have p5 : 0 ≤ (x7_1 : Int) := of_decide_eq_true zS_
   have q5 : x7_1 < (a0.size : Int) := of_decide_eq_true zS_
   have hx5 := bt_at a0 x7_1
   replace p5 := eq_true p5
   replace q5 := eq_true q5
   go_wp2
   go_roundg k1
   case measure => have := HK1.out; omega
   case rel => exact ⟨(wrap64 ((wrap64 (10 * x3_1)) + (((bt a0 x7_1) - 48) % 256))), (wrap64 (x7_1 + 1)), zV_, zV_, H', ⟨zs10_3⟩, zs10_1⟩

/-! ### impl_sumOf: function 93 -/
def impl_sumOf.l0 : Nat → ByteArray → Int → Int → Int → Option (Int)
 | 0, _, _, _, _ => none
 | k + 1, x0, x3, x6, x7 => if x7 < x6 then (if 0 ≤ x7 then (if x7 < (x0.size : Int) then (impl_sumOf.l0 k x0 (wrap64 (x3 + (((bt x0 x7) - 48) % 256))) x6 (wrap64 (x7 + 1))) else (none)) else (none)) else (some x3)
def impl_sumOf.f (k : Nat) (a0 : ByteArray) : Option (Int) := impl_sumOf.l0 k a0 0 (a0.size : Int) 0
theorem impl_sumOf.mono_l : ∀ k, (∀ y0 y1 y2 y3, LeO (impl_sumOf.l0 k y0 y1 y2 y3) (impl_sumOf.l0 (k + 1) y0 y1 y2 y3))
 | 0 => fun _ _ _ _ r h => by simp [impl_sumOf.l0] at h
 | k + 1 => by
  have ih0 := impl_sumOf.mono_l k
  intro y0 y1 y2 y3
  unfold impl_sumOf.l0
  have m1_ := @ih0
  exact zM_
theorem impl_sumOf.mono : ∀ a0 k, LeO (impl_sumOf.f k a0) (impl_sumOf.f (k + 1) a0) := by
 intro a0 k
 have ih0 := impl_sumOf.mono_l k
 unfold impl_sumOf.f
 have m1_ := @ih0
 exact zM_
theorem impl_sumOf.calls (k : Nat) (a0 : ByteArray) (r : Int) (w : World) (h : impl_sumOf.f k a0 = some r) :
 Calls Tryz.prog 93 #[.string a0] w fun e w' => e = .returned (.int .i64 r) ∧ Drawn0 w w' := by
 unfold impl_sumOf.f at h
 have H := h
 clear h
 have H' := Aside0.mk H
 clear H
 go_enter Tryz.func93, Tryz.ntmps93
 go_wp2
 go_loopg [3, 7] k (fun kq v3 v7 w' => ∃ (x3_1 : Int) (x7_1 : Int), v3 = .int .i64 x3_1 ∧ v7 = .int .i64 x7_1 ∧ Aside0 (impl_sumOf.l0 kq a0 x3_1 (a0.size : Int) x7_1 = some r) ∧ Aside0 (kq ≤ k) ∧ Drawn0 w w')
 case atStart => exact ⟨(0), (0), zV_, zV_, H', ⟨Nat.le_refl _⟩, zs10_1⟩
 case round =>
  clear H'
  obtain ⟨x3_1, x7_1, rfl, rfl, HA, HK1, ⟨m1, rfl⟩⟩ := hrel
  cases gk with
  | zero => exact absurd HA.out (by simp [impl_sumOf.l0])
  | succ k1 =>
   have H := HA.out
   clear HA
   simp only [impl_sumOf.l0] at H
   by_cases c2 : x7_1 < (a0.size : Int)
   rotate_left
   · rw [if_neg c2] at H
     have c2b0 := decide_eq_false c2
     clear c2
     obtain rfl := Option.some.inj H
     go_wp2
     go_ret
     exact ⟨zs10_2, zs10_1⟩
   rw [if_pos c2] at H
   have c2b0 := decide_eq_true c2
   clear c2
   replace H := gd_ H; obtain ⟨c3, H⟩ := H
   have c3b0 : decide (0 ≤ x7_1) = true := decide_eq_true c3
   clear c3
   replace H := gd_ H; obtain ⟨c4, H⟩ := H
   have c4b0 : decide (x7_1 < (a0.size : Int)) = true := decide_eq_true c4
   clear c4
   have H' := Aside0.mk H
   clear H
   have p5 : 0 ≤ (x7_1 : Int) := of_decide_eq_true zS_
   have q5 : x7_1 < (a0.size : Int) := of_decide_eq_true zS_
   have hx5 := bt_at a0 x7_1
   replace p5 := eq_true p5
   replace q5 := eq_true q5
   go_wp2
   go_roundg k1
   case measure => have := HK1.out; omega
   case rel => exact ⟨(wrap64 (x3_1 + (((bt a0 x7_1) - 48) % 256))), (wrap64 (x7_1 + 1)), zV_, zV_, H', ⟨zs10_3⟩, zs10_1⟩

/-! ### impl_bit: function 94 -/
def impl_bit.f (a0 : Bool) : Option (Int) := if a0 = true then (some 1) else (some 0)
theorem impl_bit.calls (a0 : Bool) (r : Int) (w : World) (h : impl_bit.f a0 = some r) :
 Calls Tryz.prog 94 #[.bool a0] w fun e w' => e = .returned (.int .i64 r) ∧ Drawn0 w w' := by
 unfold impl_bit.f at h
 have H := h
 clear h
 by_cases c2 : a0 = true
 · subst c2
   rw [if_pos rfl] at H
   obtain rfl := Option.some.inj H
   go_enter Tryz.func94, Tryz.ntmps94
   go_wp2
   go_ret
   exact ⟨zs10_2, zs10_1⟩
 replace H := bf_ c2 H; obtain ⟨rfl, H⟩ := H
 obtain rfl := Option.some.inj H
 go_enter Tryz.func94, Tryz.ntmps94
 go_wp2
 go_ret
 exact ⟨zs10_2, zs10_1⟩

/-! ### impl_halves: function 115 -/
def impl_halves.f (a0 : ByteArray) : Option (ByteArray × ByteArray) := if 0 ≤ (wrap64 ((a0.size : Int) / 2)) then (if (wrap64 ((a0.size : Int) / 2)) ≤ (a0.size : Int) then (some (a0.extract 0 ((wrap64 ((a0.size : Int) / 2)) : Int).toNat, a0.extract ((wrap64 ((a0.size : Int) / 2)) : Int).toNat a0.size)) else (none)) else (none)
theorem impl_halves.calls (a0 : ByteArray) (r1 : ByteArray) (r2 : ByteArray) (w : World) (h : impl_halves.f a0 = some (r1, r2)) :
 Calls Tryz.prog 115 #[.string a0] w fun e w' => e = .returned (.tuple #[.string r1, .string r2]) ∧ Drawn0 w w' := by
 unfold impl_halves.f at h
 have H := h
 clear h
 obtain ⟨ji2, hji2⟩ : ∃ j_ : Int, (wrap64 ((a0.size : Int) / 2)) = j_ := ⟨_, rfl⟩
 replace H : (if 0 ≤ (ji2) then (if (ji2) ≤ (a0.size : Int) then (some (a0.extract 0 ((ji2) : Int).toNat, a0.extract ((ji2) : Int).toNat a0.size)) else (none)) else (none)) = some (r1, r2) := by first | (rw [hji2] at H; exact H) | (simp only [hji2] at H ⊢; exact H)
 have hji2w : (IntKind.i64.wrap ((a0.size : Int) / 2)) = ji2 := (i64_w _).trans hji2
 replace H := gd_ H; obtain ⟨c3, H⟩ := H
 have c3b0 := eq_true c3
 have c3b1 : decide (0 ≤ (ji2)) = true := decide_eq_true c3
 clear c3
 replace H := gd_ H; obtain ⟨c4, H⟩ := H
 have c4b0 := eq_true c4
 have c4b1 : decide ((ji2) ≤ (a0.size : Int)) = true := decide_eq_true c4
 clear c4
 have c5b0 := eq_true (of_decide_eq_true zS_ : 0 ≤ (ji2))
 have c6b0 := eq_true (of_decide_eq_true zS_ : (ji2) ≤ (a0.size : Int))
 simp only [Option.some.injEq, Prod.mk.injEq] at H
 obtain ⟨rfl, rfl⟩ := H
 go_enter Tryz.func115, Tryz.ntmps115
 go_wp2
 repeat (go_quiet (fail); try go_wp2)
 go_ret2
 exact ⟨by first | rfl | (simp; done) | (simp only [← hji2] <;> (first | rfl | simp)) | (simp [*]; done), zs10_1⟩

/-! ### impl_isLucky: function 95 -/
def impl_isLucky.f (k : Nat) (a0 : ByteArray) : Option (Bool) := (impl_halves.f a0).bind fun bt243 => ((impl_sumOf.f k bt243.1).bind fun t245 => ((impl_sumOf.f k bt243.2).bind fun t246 => (some (t245 == t246))))
theorem impl_isLucky.mono : ∀ a0 k, LeO (impl_isLucky.f k a0) (impl_isLucky.f (k + 1) a0) := by
 intro a0 k
 unfold impl_isLucky.f
 have m1_ := @impl_sumOf.mono
 exact zM_
theorem impl_isLucky.calls (k : Nat) (a0 : ByteArray) (r : Bool) (w : World) (h : impl_isLucky.f k a0 = some r) :
 Calls Tryz.prog 95 #[.string a0] w fun e w' => e = .returned (.bool r) ∧ Drawn0 w w' := by
 unfold impl_isLucky.f at h
 have H := h
 clear h
 replace H := bd_ H; obtain ⟨⟨t243, t244⟩, A2, H⟩ := H
 dsimp only at H
 replace H := bd_ H; obtain ⟨t245, A3, H⟩ := H
 replace H := bd_ H; obtain ⟨t246, A4, H⟩ := H
 obtain rfl := Option.some.inj H
 go_enter Tryz.func95, Tryz.ntmps95
 go_wp2_with (first | ((with_reducible refine gc_ 115 rfl ?_); refine gL_ 7 Tryz.func115 #[.string a0] ?_; (with_reducible refine (impl_halves.calls a0 t243 t244 _ A2.out).mono ?_); rintro e w' ⟨rfl, ⟨nd, rfl⟩⟩; refine ⟨_, rfl, ?_⟩) | ((with_reducible refine gc_ 93 rfl ?_); refine gL_ 11 Tryz.func93 #[.string t243] ?_; (with_reducible refine (impl_sumOf.calls k t243 t245 _ A3.out).mono ?_); rintro e w' ⟨rfl, ⟨nd, rfl⟩⟩; refine ⟨_, rfl, ?_⟩) | ((with_reducible refine gc_ 93 rfl ?_); refine gL_ 13 Tryz.func93 #[.string t244] ?_; (with_reducible refine (impl_sumOf.calls k t244 t246 _ A4.out).mono ?_); rintro e w' ⟨rfl, ⟨nd, rfl⟩⟩; refine ⟨_, rfl, ?_⟩))
 go_ret
 exact ⟨zs10_2, zs10_1⟩

/-! ### cmp_isNaN_byte: function 176 -/
def cmp_isNaN_byte.f (a0 : Int) : Option (Bool) := some (a0 != a0)
theorem cmp_isNaN_byte.calls (a0 : Int) (r : Bool) (w : World) (h : cmp_isNaN_byte.f a0 = some r) :
 Calls Tryz.prog 176 #[.int .u8 a0] w fun e w' => e = .returned (.bool r) ∧ Drawn0 w w' := by
 unfold cmp_isNaN_byte.f at h
 have H := h
 clear h
 obtain rfl := Option.some.inj H
 go_enter Tryz.func176, Tryz.ntmps176
 go_wp2
 go_ret
 exact ⟨zs10_2, zs10_1⟩

/-! ### cmp_Less_byte: function 160 -/
def cmp_Less_byte.f (a0 : Int) (a1 : Int) : Option (Bool) := (cmp_isNaN_byte.f a0).bind fun t247 => (if t247 = true then ((cmp_isNaN_byte.f a1).bind fun t248 => (if t248 = true then (some (decide (a0 < a1))) else (some true))) else (some (decide (a0 < a1))))
theorem cmp_Less_byte.calls (a0 : Int) (a1 : Int) (r : Bool) (w : World) (h : cmp_Less_byte.f a0 a1 = some r) :
 Calls Tryz.prog 160 #[.int .u8 a0, .int .u8 a1] w fun e w' => e = .returned (.bool r) ∧ Drawn0 w w' := by
 unfold cmp_Less_byte.f at h
 have H := h
 clear h
 replace H := bd_ H; obtain ⟨t247, A3, H⟩ := H
 by_cases c4 : t247 = true
 rotate_left
 · replace H := bf_ c4 H; obtain ⟨rfl, H⟩ := H
   obtain rfl := Option.some.inj H
   go_enter Tryz.func160, Tryz.ntmps160
   go_wp2_with (first | ((with_reducible refine gc_ 176 rfl ?_); refine gL_ 6 Tryz.func176 #[.int .u8 a0] ?_; (with_reducible refine (cmp_isNaN_byte.calls a0 false _ A3.out).mono ?_); rintro e w' ⟨rfl, ⟨nd, rfl⟩⟩; refine ⟨_, rfl, ?_⟩))
   go_ret
   exact ⟨zs10_2, zs10_1⟩
 subst c4
 rw [if_pos rfl] at H
 replace H := bd_ H; obtain ⟨t248, A5, H⟩ := H
 by_cases c6 : t248 = true
 · subst c6
   rw [if_pos rfl] at H
   obtain rfl := Option.some.inj H
   go_enter Tryz.func160, Tryz.ntmps160
   go_wp2_with (first | ((with_reducible refine gc_ 176 rfl ?_); refine gL_ 6 Tryz.func176 #[.int .u8 a0] ?_; (with_reducible refine (cmp_isNaN_byte.calls a0 true _ A3.out).mono ?_); rintro e w' ⟨rfl, ⟨nd, rfl⟩⟩; refine ⟨_, rfl, ?_⟩) | (go_at_call 176; (with_reducible refine (cmp_isNaN_byte.calls a1 true _ A5.out).mono ?_); rintro e w' ⟨rfl, ⟨nd, rfl⟩⟩))
   go_ret
   exact ⟨zs10_2, zs10_1⟩
 replace H := bf_ c6 H; obtain ⟨rfl, H⟩ := H
 obtain rfl := Option.some.inj H
 go_enter Tryz.func160, Tryz.ntmps160
 go_wp2_with (first | ((with_reducible refine gc_ 176 rfl ?_); refine gL_ 6 Tryz.func176 #[.int .u8 a0] ?_; (with_reducible refine (cmp_isNaN_byte.calls a0 true _ A3.out).mono ?_); rintro e w' ⟨rfl, ⟨nd, rfl⟩⟩; refine ⟨_, rfl, ?_⟩) | (go_at_call 176; (with_reducible refine (cmp_isNaN_byte.calls a1 false _ A5.out).mono ?_); rintro e w' ⟨rfl, ⟨nd, rfl⟩⟩))
 go_ret
 exact ⟨zs10_2, zs10_1⟩


/-! ### impl_differs: function 96 -/
/-- A row of bytes of the call's own that a conversion has made (its block bears the conversion's mark). -/
def MR (e : Nat) (w : World) (base : Nat) (ok : Nat → Prop) (v : Value) (xs : List Int) : Prop :=
 (∀ k, v.ownBlock = some k → ok k) ∧ ∃ g cap, ∃ cur : Array Value, v = .slice (some ⟨g, 0, none⟩) xs.length cap ∧ base ≤ g ∧ w.heap[g]? = some (.cells cur e (cur.size, cur.size + 1)) ∧ xs.length ≤ cap ∧ cap ≤ cur.size ∧ cap ≤ 9223372036854775807 ∧ ∀ j, j < xs.length → cur[j]? = some (.int .u8 (xs.getD j 0))
section
variable {e base n cap g m : Nat} {w w1 w' W : World} {ok ok' : Nat → Prop} {v : Value} {xs : List Int} {A : Option Addr}
theorem MR_mono (h : MR e w base ok v xs) (hok : ∀ k, ok k → ok' k) : MR e w base ok' v xs := ⟨fun k hk => hok k (h.1 k hk), h.2⟩
theorem MR_step (h : MR e w base ok v xs) (hm : ∀ k, ok k → k < w.heap.size → w1.heap[k]? = w.heap[k]?) : MR e w1 base ok v xs := by
 obtain ⟨h0, g, cap, cur, rfl, hg, hh, r⟩ := h
 exact ⟨h0, g, cap, cur, rfl, hg, (hm g (h0 g (by simp [Value.ownBlock])) (blk_lt hh)).trans hh, r⟩
theorem MR_below (h : MR e w base ok v xs) (hb : Below w.heap.size w w1) : MR e w1 base ok v xs := MR_step h (fun k _ hk => hb.block k hk)
theorem MR_alloc (h : MR e w base ok v xs) (o : Obj) : MR e (w.alloc o) base ok v xs := MR_below h (below_alloc (Below.refl _ _) o)
theorem MR_drew (h : MR e w base ok v xs) : MR e w.drew base ok v xs := MR_below h (below_drew (Below.refl _ _))
theorem MR_drewN (h : MR e w base ok v xs) (m : Nat) : MR e (w.drewN m) base ok v xs := MR_below h (pw_below_drewN (Below.refl _ _) m)
theorem MR_at (hq : w.drewN m = w') (h : MR e w base ok v xs) : MR e w' base ok v xs := by subst hq; exact MR_drewN h m
theorem MR_slice (h : MR e w base ok v xs) : ∃ A c, v = .slice A xs.length c := by
 obtain ⟨_, g, cap, cur, rfl, _⟩ := h
 exact ⟨_, _, rfl⟩
theorem MR_reads' {c : Nat} (h : MR e w base ok (.slice A n c) xs) : n = xs.length ∧ n ≤ c ∧ Kd.C (Kd.int .u8) w A xs.length xs := by
 obtain ⟨_, g, cap, cur, hv, _, hh, hl, hc, hm, hcur⟩ := h
 injection hv with h1 h2 h3
 subst h1; subst h3
 refine ⟨h2, by omega, Kd.C_of_reads (d := (0 : Int)) ⟨rfl, by omega, fun _ => ⟨_, rfl, fun j hj => ?_⟩⟩⟩
 rw [add_plain]
 rw [cell_of_row w g _ cur e _ hh]
 exact hcur j hj
theorem MR_form (h : MR e w base ok v xs) (_hp : 0 < xs.length) : ∃ g cap, v = .slice (some ⟨g, 0, none⟩) xs.length cap ∧ base ≤ g ∧ g < w.heap.size ∧ ∃ cells, w.heap[g]? = some (.cells cells e (cells.size, cells.size + 1)) := by
 obtain ⟨_, g, cap, cur, hv, hb, hh, _⟩ := h
 exact ⟨g, cap, hv, hb, blk_lt hh, cur, hh⟩
theorem MR_celln (_d : Int) (h : MR e W base ok (.slice (some ⟨g, 0, none⟩) n cap) xs) (i : Int) (h0 : 0 ≤ i) (hi : i < n) : W.cell? ⟨g, i.toNat, none⟩ = some (.int .u8 (rd xs i)) ∧ W.frozen? ⟨g, i.toNat, none⟩ = false := by
 obtain ⟨_, g', cap', cur, hv, _, hh, hl, hc, hm, hcur⟩ := h
 injection hv with h1 h2 h3
 injection h1 with h1
 injection h1 with h1
 subst h1; subst h3
 refine ⟨(cell_of_row W _ _ cur e _ hh).trans (hcur _ (by omega)), ?_⟩
 simp [World.frozen?, hh]
 omega
theorem MR_putn (h : MR e W base ok (.slice (some ⟨g, 0, none⟩) n cap) xs) (i : Int) (x : Int) : MR e (W.setCell ⟨g, i.toNat, none⟩ (.int .u8 x)) base ok (.slice (some ⟨g, 0, none⟩) n cap) (xs.set i.toNat x) := by
 obtain ⟨h0, g', cap', cur, hv, hb, hh, hl, hc, hm, hcur⟩ := h
 injection hv with h1 h2 h3
 injection h1 with h1
 injection h1 with h1
 subst h1; subst h3
 refine ⟨h0, g, cap, cur.setIfInBounds i.toNat (.int .u8 x), by rw [List.length_set, h2], hb, ?_, by rw [List.length_set]; exact hl, by simpa using hc, hm, fun j hj => ?_⟩
 · have hlt := blk_lt hh
   rw [Array.getElem?_eq_getElem hlt] at hh
   simp only [World.setCell, Array.getElem?_modify, if_true, Array.getElem?_eq_getElem hlt, Option.map_some, Array.size_setIfInBounds]
   rw [Option.some.inj hh]
   simp
 rw [List.length_set] at hj
 rw [Array.getElem?_setIfInBounds]
 by_cases c : i.toNat = j
 · subst c
   have : i.toNat < cur.size := by omega
   simp [this, List.getD, hj]
 rw [if_neg c, hcur j hj]
 simp [List.getD, c]
theorem MR_putg (h : MR e W base ok (.slice (some ⟨g, 0, none⟩) n cap) xs) (i : Int) (x : Int) : MR e (W.setCell ⟨g, i.toNat, none⟩ (.int .u8 x)) base ok (.slice (some ⟨g, 0, none⟩) n cap) (xs.set i.toNat x) ∧ W.grownBy (W.setCell ⟨g, i.toNat, none⟩ (.int .u8 x)) (some g) :=
 ⟨MR_putn h i x, rfl, rfl, rfl, by simp [World.setCell], fun k _ hk => Below.heap_setCell W _ _ k (fun h => hk (by rw [h]))⟩
theorem MR_take {c : Nat} (h : MR e w base ok (.slice A n c) xs) (hm : m ≤ xs.length) : MR e w base ok (.slice A m c) (xs.take m) := by
 obtain ⟨h0, g', cap', cur, hv, hb, hh, hl, hc, hmx, hcur⟩ := h
 injection hv with h1 h2 h3
 subst h1; subst h3
 refine ⟨fun k hk => h0 k (by simpa [Value.ownBlock] using hk), g', _, cur, by rw [List.length_take]; congr 1; omega, hb, hh, by rw [List.length_take]; omega, hc, hmx, fun j hj => ?_⟩
 rw [List.length_take] at hj
 rw [hcur j (by omega)]
 simp [List.getD, show j < m by omega]
theorem MR_conv (w : World) (e : Nat) (s : ByteArray) (hs : s.size ≤ 9223372036854775807) (base : Nat) (hb : base ≤ w.heap.size) (hcap : grownCap w s.size 0 e ≤ 9223372036854775807) (hge : s.size ≤ grownCap w s.size 0 e) : MR e (Lib.bytesWorld w e s) base (fun _ => True) (.slice (some ⟨w.heap.size, 0, none⟩) s.size (grownCap w s.size 0 e)) (bytesOf s) := by
 have hl : (bytesOf s).length = s.size := (bytes_reads w e s hs).1
 refine ⟨fun _ _ => trivial, w.heap.size, _, Lib.bytesCells w e s, by rw [hl], hb, Lib.bytesWorld_at_new w e s, by rw [hl]; exact hge, ?_, hcap, fun j hj => ?_⟩
 · simp [Lib.bytesCells]
   have : s.data.size = s.size := rfl
   omega
 have h2 := (bytes_reads w e s hs).2.2 (by omega)
 obtain ⟨ad, h3, h4⟩ := h2
 have h5 := h4 j (by omega)
 injection h3 with h3
 subst h3
 rw [add_plain] at h5
 rw [← h5]
 exact (cell_of_row _ _ _ _ e _ (Lib.bytesWorld_at_new w e s)).symm
end
section
variable {P : Program} {ops : Array Oper} {rest : List Oper} {o : Oper} {a : Act} {Q : Exit → Act → World → Prop}
theorem MR_zeros {e base cap g k : Nat} {ok : Nat → Prop} {xs : List Int} : ∀ (m o : Nat) (W : World), MR e W base ok (.slice (some ⟨g, 0, none⟩) k cap) xs → k ≤ o → MR e (W.setCells g o (List.replicate m (.int .u8 0))) base ok (.slice (some ⟨g, 0, none⟩) k cap) xs ∧ W.grownBy (W.setCells g o (List.replicate m (.int .u8 0))) (some g)
 | 0, o, W, h, _ => ⟨h, rfl, rfl, rfl, Nat.le_refl _, fun _ _ _ => rfl⟩
 | m + 1, o, W, h, ho => by
  have hk := (MR_reads' h).1
  have h1 := MR_putg h (o : Int) 0
  rw [Int.toNat_natCast, List.set_eq_of_length_le (by omega)] at h1
  have h2 := MR_zeros m (o + 1) _ h1.1 (by omega)
  rw [List.replicate_succ]
  exact ⟨h2.1, h1.2.trans h2.2⟩
theorem MR_clear (W : World) (t e ty : TypeId) {base k cap g n c : Nat} {ok : Nat → Prop} {xs : List Int} (ht : P.underlying t = some (.slice e)) (hv : ∀ w, (zeroValue e).run P w = .ok (.int .u8 0) w) (h : MR e W base ok (.slice (some ⟨g, 0, none⟩) k cap) xs) (hfit : k + n ≤ cap) :
 (Builtin.clear_ #[t] ty #[.slice (some ⟨g, k, none⟩) n c]).run P W = .ok (.tuple #[]) (W.setCells g k (List.replicate n (.int .u8 0))) := by
 obtain ⟨_, g', cap', cur, hv', _, hh, _, hc, _, _⟩ := h
 injection hv' with h1 h2 h3
 injection h1 with h1
 injection h1 with h1
 subst h1; subst h3
 have hz : (Builtin.zeroCells (Value.int .u8 0).cells n).toList = List.replicate n (.int .u8 0) := by
  apply List.ext_getElem
  · simp [Builtin.zeroCells, Value.cells]
  intro i h1 h2
  simp [Builtin.zeroCells, Value.cells, Nat.mod_one]
 have hst := run_storeCells_cells (P := P) g k (List.replicate n (.int .u8 0)) 0 W (fun j hj => by rw [cell_of_row W g _ cur e _ hh]; simp at hj ⊢; omega) (fun j hj => by simp at hj; simp [World.frozen?, hh]; omega) (fun v hv => by rw [List.mem_replicate] at hv; rw [hv.2]; rfl)
 simp only [Nat.add_zero] at hst
 cases n with
 | zero => simp [Builtin.clear_, run_underlying ht, World.setCells]
 | succ n => simp [Builtin.clear_, run_underlying ht, hv, hz, hst]
theorem MR_clear_step {e base cap g k n c2 off : Nat} {ok : Nat → Prop} {xs : List Int} {W : World} (hgd : o.guard = none) (x : Operand) (t : TypeId) (ho : o.op = .call { callee := .builtin .clear, args := #[x], argTypes := #[t] })
 (ht : P.underlying t = some (.slice e)) (hv : ∀ w, (zeroValue e).run P w = .ok (.int .u8 0) w) (hx : a.eval x = .slice (some ⟨g, off, none⟩) n c2) (hoff : off = k) (hfit : k + n ≤ cap)
 (HO : MR e W base ok (.slice (some ⟨g, 0, none⟩) k cap) xs)
 (h : ∀ w1, MR e w1 base ok (.slice (some ⟨g, 0, none⟩) k cap) xs → W.grownBy w1 (some g) → wpList P ops Q rest (a.put o.dst (.tuple #[])) w1) : wpList P ops Q (o :: rest) a W := by
 subst hoff
 have hz := MR_zeros n off W HO (Nat.le_refl _)
 refine wpList_plain hgd fun K hK => ?_
 unfold Oper.wp execOp
 simp only [ho, resolve, invoke, builtin, Sem.run_bind, Sem.run_pure, Result.andThen_ok, List.map_toArray, List.map_cons, List.map_nil, hx, MR_clear W t e o.type ht hv HO hfit]
 exact hK _ _ (h _ hz.1 hz.2)
end
theorem grown_le (w : World) (n : Nat) (e : Nat) (h : n ≤ 9223372036854775807) : n ≤ grownCap w n 0 e ∧ grownCap w n 0 e ≤ 9223372036854775807 := by
 unfold grownCap Question.cut
 simp only []
 have := Nat.mod_lt (w.tape w.drawn (Question.appendCap n 0 e)) (show 0 < 2 ^ 63 - n by omega)
 omega
theorem zda0_ {p : Prop} (h : p := by first | (with_reducible assumption) | assumption) : p := h
theorem zdb0_ {p : Prop} (h : p := by first | (with_reducible assumption) | assumption) : p := h
theorem zdb1_ {p : Prop} (h : p := by first | rfl | (simp; done) | (simp [*]; done)) : p := h
mutual
def gd_ins.l0 : Nat → List Int → Int → Int → Int → Option (List Int)
 | 0, _, _, _, _ => none
 | k + 1, x0, x1, x2, x6 => if x6 < x2 then (gd_ins.l1 k x0 x1 x2 x6 x6) else (some x0)
def gd_ins.l1 : Nat → List Int → Int → Int → Int → Int → Option (List Int)
 | 0, _, _, _, _, _ => none
 | k + 1, x0, x1, x2, x6, x7 => if x7 > x1 then (if 0 ≤ x7 then (if x7 < (x0.length : Int) then (if 0 ≤ (wrap64 (x7 - 1)) then (if (wrap64 (x7 - 1)) < (x0.length : Int) then ((cmp_Less_byte.f (rd x0 x7) (rd x0 (wrap64 (x7 - 1)))).bind fun t149 => (if t149 = true then (gd_ins.l1 k ((x0.set (x7 : Int).toNat (rd x0 (wrap64 (x7 - 1)))).set ((wrap64 (x7 - 1)) : Int).toNat (rd x0 x7)) x1 x2 x6 (wrap64 (x7 - 1))) else (gd_ins.l0 k x0 x1 x2 (wrap64 (x6 + 1))))) else (none)) else (none)) else (none)) else (none)) else (gd_ins.l0 k x0 x1 x2 (wrap64 (x6 + 1)))
end
def gd_ins.f (k : Nat) (l0 : List Int) (a1 : Int) (a2 : Int) : Option (List Int) := gd_ins.l0 k l0 a1 a2 (wrap64 (a1 + 1))
theorem gd_ins.mono_l : ∀ k, (∀ y0 y1 y2 y3, LeO (gd_ins.l0 k y0 y1 y2 y3) (gd_ins.l0 (k + 1) y0 y1 y2 y3)) ∧ (∀ y0 y1 y2 y3 y4, LeO (gd_ins.l1 k y0 y1 y2 y3 y4) (gd_ins.l1 (k + 1) y0 y1 y2 y3 y4))
 | 0 => ⟨fun _ _ _ _ r h => by simp [gd_ins.l0] at h, fun _ _ _ _ _ r h => by simp [gd_ins.l1] at h⟩
 | k + 1 => by
  obtain ⟨ih0, ih1⟩ := gd_ins.mono_l k
  refine ⟨?_, ?_⟩
  · intro y0 y1 y2 y3
    unfold gd_ins.l0
    have m1_ := @ih0
    have m2_ := @ih1
    exact zM_
  intro y0 y1 y2 y3 y4
  unfold gd_ins.l1
  have m1_ := @ih0
  have m2_ := @ih1
  exact zM_
theorem gd_ins.mono : ∀ a0 a1 a2 k, LeO (gd_ins.f k a0 a1 a2) (gd_ins.f (k + 1) a0 a1 a2) := by
 intro a0 a1 a2 k
 obtain ⟨ih0, ih1⟩ := gd_ins.mono_l k
 unfold gd_ins.f
 have m1_ := @ih0
 have m2_ := @ih1
 exact zM_
def gd_ins.T4 : Bool × List (List Nat × List Nat) := (true, [([], []), ([], []), ([0, 1], [0, 1]), ([2], [2]), ([3], [3]), ([3], [3]), ([4, 5, 3], [3, 4, 5]), ([6, 3], [3, 6]), ([3], [3]), ([3], [3]), ([9, 3], [3, 9]), ([8, 10, 3], [3, 8, 10]), ([11, 3], [3, 11]), ([7, 12, 3, 3], [3, 7, 12]), ([3, 13], [3, 13])])
def gd_ins.B4 : List Nat := [0, 0, 3, 7, 15, 15, 63, 127, 15, 15, 527, 1807, 3855, 8191, 16383]
theorem gd_ins.tab4 : rtab .any (opsOf Tryz.f154 4) = gd_ins.T4 := by kernel_rfl
theorem gd_ins.bits4 : waitsOk gd_ins.T4.2 gd_ins.B4 = true := by kernel_rfl
def gd_ins.T6 : Bool × List (List Nat × List Nat) := (true, [([], []), ([], []), ([], []), ([], []), ([3], [3]), ([], []), ([], []), ([6], [6]), ([5, 7], [5, 7]), ([8], [8]), ([], []), ([], []), ([10, 11], [10, 11]), ([12], [12]), ([0, 1, 0, 1, 5, 6, 7, 8, 9, 13], [0, 1]), ([14, 9, 0, 1, 5, 6, 7, 8, 9, 13], [9, 14]), ([2, 4, 0, 1, 2, 3, 4, 5, 6, 7, 8, 9, 10, 11, 12, 13, 14, 15], [2, 4]), ([16, 13, 15, 0, 1, 2, 3, 4, 5, 6, 7, 8, 9, 10, 11, 12, 13, 14, 15], [13, 16])])
def gd_ins.B6 : List Nat := [0, 0, 0, 0, 8, 0, 0, 64, 224, 480, 0, 0, 3072, 7168, 16355, 32739, 65535, 131071]
theorem gd_ins.tab6 : rtab .any (opsOf Tryz.f154 6) = gd_ins.T6 := by kernel_rfl
theorem gd_ins.bits6 : waitsOk gd_ins.T6.2 gd_ins.B6 = true := by kernel_rfl
theorem gd_ins.calls (k : Nat) (P0_ : Nat → Prop) (u9000_ : Value) (l0 : List Int) (a1 : Int) (a2 : Int) (r : List Int) (w0 w : World) (hB : Below w0.heap.size w0 w) (ho0 : MR 5 w w0.heap.size P0_ u9000_ l0) (h : gd_ins.f k l0 a1 a2 = some r) :
 Calls Tryz.prog 154 #[u9000_, .int .i64 a1, .int .i64 a2] w fun e w' => e = .returned (.tuple #[]) ∧ MR 5 w' w0.heap.size (fun k_ => (P0_ k_ ∨ w.heap.size ≤ k_)) u9000_ r ∧ Below w0.heap.size w0 w' ∧ Kept w w' (fun k_ => P0_ k_) := by
 have HO0 := Aside0.mk (show MR 5 w w0.heap.size (fun k_ => (P0_ k_ ∨ w.heap.size ≤ k_)) u9000_ l0 from MR_mono ho0 (fun k_ hk => (.inl hk)))
 have HK := Aside0.mk (Kept.refl w (fun k_ => P0_ k_))
 have HW0 := Aside0.mk hB.size
 have HB := Aside0.mk hB
 clear hB
 unfold gd_ins.f at h
 have H := h
 clear h
 have H' := Aside0.mk H
 clear H
 go_enter Tryz.func154, Tryz.ntmps154
 go_wp2
 go_loopg [6] k (fun kq v6 w' => ∃ (x0_1 : List Int) (x6_1 : Int), v6 = .int .i64 x6_1 ∧ Aside0 (gd_ins.l0 kq x0_1 a1 a2 x6_1 = some r) ∧ Aside0 (kq ≤ k) ∧ Aside0 (MR 5 w' w0.heap.size (fun k_ => (P0_ k_ ∨ w.heap.size ≤ k_)) u9000_ x0_1) ∧ Aside0 (Kept w w' (fun k_ => P0_ k_)) ∧ Aside0 (Below w0.heap.size w0 w'))
 case atStart => exact ⟨(l0), (wrap64 (a1 + 1)), zV_, H', ⟨Nat.le_refl _⟩, ⟨zs10_4⟩, ⟨zs10_5⟩, ⟨zB_⟩⟩
 case round =>
  clear H'
  obtain ⟨x0_1, x6_1, rfl, HA, HK1, HO_0, HK, HB⟩ := hrel
  cases gk with
  | zero => exact absurd HA.out (by simp [gd_ins.l0])
  | succ k1 =>
   have H := HA.out
   clear HA
   simp only [gd_ins.l0] at H
   by_cases c4 : x6_1 < a2
   rotate_left
   · rw [if_neg c4] at H
     have c4b0 := decide_eq_false c4
     clear c4
     obtain rfl := Option.some.inj H
     go_wp2
     first | go_end0 | ((try simp only [Exit.inBlock, Exit.then]); refine bodyPost_ret (results_none rfl _ _ _) rfl ?_)
     exact ⟨zR_, zs10_6, zs10_7, zs10_5⟩
   rw [if_pos c4] at H
   have c4b0 := decide_eq_true c4
   clear c4
   have H' := Aside0.mk H
   clear H
   go_wp2
   go_loopg [7] k1 (fun kq v7 w' => ∃ (x0_2 : List Int) (x7_2 : Int), v7 = .int .i64 x7_2 ∧ Aside0 (gd_ins.l1 kq x0_2 a1 a2 x6_1 x7_2 = some r) ∧ Aside0 (kq ≤ k1) ∧ Aside0 (MR 5 w' w0.heap.size (fun k_ => (P0_ k_ ∨ w.heap.size ≤ k_)) u9000_ x0_2) ∧ Aside0 (Kept w w' (fun k_ => P0_ k_)) ∧ Aside0 (Below w0.heap.size w0 w'))
   case atStart => exact ⟨(x0_1), (x6_1), zV_, H', ⟨Nat.le_refl _⟩, ⟨zs10_6⟩, ⟨zs10_5⟩, ⟨zB_⟩⟩
   case round =>
    clear H'
    obtain ⟨x0_2, x7_2, rfl, HA, HK2, HO_0, HK, HB⟩ := hrel
    cases gk with
    | zero => exact absurd HA.out (by simp [gd_ins.l1])
    | succ k2 =>
     have H := HA.out
     clear HA
     simp only [gd_ins.l1] at H
     by_cases c5 : x7_2 > a1
     · rw [if_pos c5] at H
       have c5b0 : decide (a1 < x7_2) = true := decide_eq_true c5
       clear c5
       replace H := gd_ H; obtain ⟨c6, H⟩ := H
       have c6b0 : decide (0 ≤ x7_2) = true := decide_eq_true c6
       clear c6
       replace H := gd_ H; obtain ⟨c7, H⟩ := H
       have c7b0 : decide (x7_2 < (x0_2.length : Int)) = true := decide_eq_true c7
       clear c7
       obtain ⟨ji8, hji8⟩ : ∃ j_ : Int, (wrap64 (x7_2 - 1)) = j_ := ⟨_, rfl⟩
       replace H : (if 0 ≤ (ji8) then (if (ji8) < (x0_2.length : Int) then ((cmp_Less_byte.f (rd x0_2 x7_2) (rd x0_2 (ji8))).bind fun t149 => (if t149 = true then (gd_ins.l1 k2 ((x0_2.set (x7_2 : Int).toNat (rd x0_2 (ji8))).set ((ji8) : Int).toNat (rd x0_2 x7_2)) a1 a2 x6_1 ji8) else (gd_ins.l0 k2 x0_2 a1 a2 (wrap64 (x6_1 + 1))))) else (none)) else (none)) = some r := by first | (rw [hji8] at H; exact H) | (simp only [hji8] at H ⊢; exact H)
       have hji8w : (IntKind.i64.wrap (x7_2 - 1)) = ji8 := (i64_w _).trans hji8
       replace H := gd_ H; obtain ⟨c9, H⟩ := H
       have c9b0 : decide (0 ≤ (ji8)) = true := decide_eq_true c9
       clear c9
       replace H := gd_ H; obtain ⟨c10, H⟩ := H
       have c10b0 : decide ((ji8) < (x0_2.length : Int)) = true := decide_eq_true c10
       clear c10
       replace H := bd_ H; obtain ⟨t149, A11, H⟩ := H
       by_cases c12 : t149 = true
       · subst c12
         rw [if_pos rfl] at H
         obtain ⟨y152, hy152⟩ : ∃ y_ : List Int, y_ = (x0_2.set (x7_2 : Int).toNat (rd x0_2 (ji8))) := ⟨_, rfl⟩
         replace H : (gd_ins.l1 k2 (y152.set ((ji8) : Int).toNat (rd x0_2 x7_2)) a1 a2 x6_1 ji8) = some r := by first | (rw [hy152]; with_reducible exact H) | (have H2_ := (Option.bind_some _ _).symm.trans H; rw [hy152]; with_reducible exact H2_) | (have H2_ := (Option.bind_some _ _).symm.trans H; with_reducible exact H2_) | with_reducible exact H | (rw [hy152]; exact H) | exact H
         have Ny152 := Aside0.mk hy152
         clear hy152
         obtain ⟨y153, hy153⟩ : ∃ y_ : List Int, y_ = (y152.set ((ji8) : Int).toNat (rd x0_2 x7_2)) := ⟨_, rfl⟩
         replace H : (gd_ins.l1 k2 y153 a1 a2 x6_1 ji8) = some r := by first | (rw [hy153]; with_reducible exact H) | (have H2_ := (Option.bind_some _ _).symm.trans H; rw [hy153]; with_reducible exact H2_) | (have H2_ := (Option.bind_some _ _).symm.trans H; with_reducible exact H2_) | with_reducible exact H | (rw [hy153]; exact H) | exact H
         have Ny153 := Aside0.mk hy153
         clear hy153
         have H' := Aside0.mk H
         clear H
         try go_wp2
         replace HO_0 := Aside0.mk (MR_drew HO_0.out)
         replace HK := Aside0.mk (Kept.drew HK.out)
         replace HB := Aside0.mk (below_drew1 HB.out)
         obtain ⟨Ao16, co16, eo16⟩ := MR_slice HO_0.out
         (first | subst eo16 | (injection eo16 with f1_ f2_ f3_; have f4_ := f1_.symm; have f5_ := f3_.symm; clear f1_ f2_ f3_; subst f4_; subst f5_))
         have p147 : 0 ≤ (x7_2 : Int) := of_decide_eq_true zda0_
         have q147 : x7_2 < (x0_2.length : Int) := of_decide_eq_true zda0_
         obtain ⟨ad147, e147, hx147_0⟩ := Kd.at_int (MR_reads' HO_0.out).2.2 x7_2 p147 q147
         cases e147
         replace p147 := eq_true p147
         replace q147 := eq_true q147
         have p148 : 0 ≤ ((ji8) : Int) := of_decide_eq_true zda0_
         have q148 : (ji8) < (x0_2.length : Int) := of_decide_eq_true zda0_
         obtain ⟨ad148, e148, hx148_0⟩ := Kd.at_int (MR_reads' HO_0.out).2.2 (ji8) p148 q148
         obtain rfl : ad147 = ad148 := (by injection e148)
         replace p148 := eq_true p148
         replace q148 := eq_true q148
         refine start_ (n := 15) (S := fun w' => w'.cell? (ad147.add (x7_2).toNat) = some (.int .u8 (rd x0_2 x7_2)) ∧ w'.cell? (ad147.add ((ji8)).toNat) = some (.int .u8 (rd x0_2 (ji8)))) (ds := []) #[false, false, false, false, false, false, false, false, false, false, false, false, false, false, false] (by kernel_rfl) rfl rfl ⟨hx147_0, hx148_0⟩ (fun hHeld => ?_); refine with_tabW gd_ins.tab4 gd_ins.bits4 (fun HT_ HW_ => ?_)
         generalize wr.drew = w15 at HO_0 HK HB hx147_0 hx148_0 hHeld ⊢
         refine pq_ 0 16 ?_
         refine pq_ 1 17 ?_
         refine pq_ 2 18 ?_
         refine pq_ 3 19 ?_
         refine pq_ 4 20 ?_
         refine pq_ 5 21 ?_
         refine pq_ 6 22 ?_
         refine pq_ 8 24 ?_
         refine pq_ 9 25 ?_
         refine pq_ 10 26 ?_
         refine pq_ 11 27 ?_
         refine take_ (i := 7) (N := some 23) (v := ?_) (a' := ?_) #[true, true, true, true, true, true, true, true, true, true, true, true, false, false, false] rfl rfl (take_ofW HT_.out HW_.out (by kernel_rfl)) (fun _ _ _ h => h) (Or.inl ⟨by rfl, ?_⟩) hHeld ?_ ?_
         rotate_left
         · rintro w' ⟨s0, s1⟩
           go_simp
           with_reducible rfl
         rotate_left
         · simp only [Act.put, List.setIfInBounds_toArray, List.set_cons_zero, List.set_cons_succ, i64_w, i32_w]
           rfl
         refine take_ (i := 12) (N := some 28) (v := ?_) (a' := ?_) #[true, true, true, true, true, true, true, true, true, true, true, true, true, false, false] rfl rfl (take_ofW HT_.out HW_.out (by kernel_rfl)) (fun _ _ _ h => h) (Or.inl ⟨by rfl, ?_⟩) hHeld ?_ ?_
         rotate_left
         · rintro w' ⟨s0, s1⟩
           go_simp
           with_reducible rfl
         rotate_left
         · simp only [Act.put, List.setIfInBounds_toArray, List.set_cons_zero, List.set_cons_succ, i64_w, i32_w]
           rfl
         refine one_ (i := 13) (N := some 29) #[true, true, true, true, true, true, true, true, true, true, true, true, true, true, false] rfl rfl (one_of HT_.out (by kernel_rfl)) (by decide) (fun K hK => ?_)
         refine goes_ Tryz.func160 (by kernel_rfl) rfl #[.int .u8 (rd x0_2 x7_2), .int .u8 (rd x0_2 (ji8))] (by rfl) rfl rfl zq10_0_ ?_
         with_reducible refine (cmp_Less_byte.calls (rd x0_2 x7_2) (rd x0_2 (ji8)) true _ A11.out).mono ?_
         rintro e w' ⟨rfl, ⟨nd, rfl⟩⟩
         refine ⟨_, rfl, ?_⟩
         refine hK.out _ _ ⟨hHeld.1, hHeld.2⟩ (fun hHeld => ?_)
         clear hK K
         refine norm_ (a' := ?_) ?_ ?_
         rotate_left
         · show Act.put _ (some 29) _ = _
           simp only [Act.put, List.setIfInBounds_toArray, List.set_cons_zero, List.set_cons_succ, i64_w, i32_w]
           rfl
         refine pq_ 14 30 ?_
         refine done_ (done_of HT_.out (by kernel_rfl)) ?_
         try go_wp2
         (try (rw [drewN_self w15]; generalize hq_ : World.drewN w15 _ = w15; have n0_ : Aside0 (MR 5 w15 w0.heap.size (fun k_ => (P0_ k_ ∨ w.heap.size ≤ k_)) (.slice (some ad147) x0_2.length co16) x0_2) := ⟨by rw [← hq_]; exact (by (with_reducible repeat (first | apply MR_alloc | apply MR_drewN | apply MR_drew)); exact HO_0.out)⟩; have n1_ : Aside0 (Kept w w15 (fun k_ => P0_ k_)) := ⟨by rw [← hq_]; exact (by repeat (first | (with_reducible first | exact HK.out | apply Kept.alloc | apply Kept.drewN | apply Kept.drew) | exact HK.out))⟩; have n2_ : Aside0 (Below w0.heap.size w0 w15) := ⟨by rw [← hq_]; exact zB_⟩; clear HO_0 HK HB hq_; have HO_0 := n0_; have HK := n1_; have HB := n2_; clear n0_ n1_ n2_))
         replace HO_0 := Aside0.mk (MR_drew HO_0.out)
         replace HK := Aside0.mk (Kept.drew HK.out)
         replace HB := Aside0.mk (below_drew1 HB.out)
         have p150 : 0 ≤ ((ji8) : Int) := of_decide_eq_true zda0_
         have q150 : (ji8) < (x0_2.length : Int) := of_decide_eq_true zda0_
         obtain ⟨ad150, e150, hx150_0⟩ := Kd.at_int (MR_reads' HO_0.out).2.2 (ji8) p150 q150
         obtain rfl : ad147 = ad150 := (by injection e150)
         replace p150 := eq_true p150
         replace q150 := eq_true q150
         have p151 : 0 ≤ (x7_2 : Int) := of_decide_eq_true zda0_
         have q151 : x7_2 < (x0_2.length : Int) := of_decide_eq_true zda0_
         obtain ⟨ad151, e151, hx151_0⟩ := Kd.at_int (MR_reads' HO_0.out).2.2 x7_2 p151 q151
         obtain rfl : ad147 = ad151 := (by injection e151)
         replace p151 := eq_true p151
         replace q151 := eq_true q151
         have p13 : 0 ≤ (x7_2 : Int) := of_decide_eq_true zda0_
         have q13 : (x7_2 : Int) < ((x0_2.length : Int) : Int) := of_decide_eq_true zda0_
         obtain ⟨go13, co13, eo13, gb13, gl13, cl13, HG13⟩ := MR_form HO_0.out (by omega)
         (first | cases eo13 | (injection eo13 with ea_ en_ ec_; (first | subst ea_ | (injection ea_ with ea_; subst ea_)); subst ec_; clear en_))
         have GB13 := Aside0.mk gb13
         have GG13 := Aside0.mk HG13
         clear gb13 gl13 HG13
         have HMgo13 := Aside0.mk (show (P0_ go13 ∨ w.heap.size ≤ go13) from (HO_0.out.1 _ rfl))
         (first | simp only [add_plain] at hx147_0 | skip)
         (first | simp only [add_plain] at hx148_0 | skip)
         (first | simp only [add_plain] at hx150_0 | skip)
         (first | simp only [add_plain] at hx151_0 | skip)
         obtain ⟨hx13_0, hf13_0⟩ := MR_celln 0 HO_0.out (x7_2 : Int) p13 q13
         replace p13 := eq_true p13
         replace q13 := eq_true q13
         have HP18 := MR_putn HO_0.out (x7_2 : Int) (rd x0_2 (ji8))
         rw [← Ny152.out] at HP18
         have HQ18 := Aside0.mk HP18
         clear HP18
         have p14 : 0 ≤ ((ji8) : Int) := of_decide_eq_true zda0_
         have q14 : ((ji8) : Int) < ((x0_2.length : Int) : Int) := of_decide_eq_true zda0_
         obtain ⟨hx14_0, hf14_0⟩ := MR_celln 0 HQ18.out ((ji8) : Int) p14 q14
         replace p14 := eq_true p14
         replace q14 := eq_true q14
         have HP19 := MR_putn HQ18.out ((ji8) : Int) (rd x0_2 x7_2)
         rw [← Ny153.out] at HP19
         have HQ19 := Aside0.mk HP19
         clear HP19
         refine start_ (n := 18) (S := fun w' => w'.cell? ⟨go13, ((ji8)).toNat, none⟩ = some (.int .u8 (rd x0_2 (ji8))) ∧ w'.cell? ⟨go13, (x7_2).toNat, none⟩ = some (.int .u8 (rd x0_2 x7_2))) (ds := [15, 17]) #[false, false, false, false, false, false, false, false, false, false, false, false, false, false, false, false, false, false] (by kernel_rfl) rfl rfl ⟨hx150_0, hx151_0⟩ (fun hHeld => ?_); refine with_tabW gd_ins.tab6 gd_ins.bits6 (fun HT_ HW_ => ?_)
         generalize w15.drew = w17 at HO_0 HK HB GG13 HQ18 HQ19 hf13_0 hf14_0 hx13_0 hx147_0 hx148_0 hx14_0 hx150_0 hx151_0 hHeld ⊢
         refine pq_ 0 33 ?_
         refine pq_ 1 34 ?_
         refine pq_ 2 35 ?_
         refine pq_ 3 36 ?_
         refine pq_ 4 37 ?_
         refine pq_ 5 38 ?_
         refine pq_ 6 39 ?_
         refine pq_ 7 40 ?_
         refine pq_ 8 41 ?_
         refine pq_ 10 43 ?_
         refine pq_ 11 44 ?_
         refine pq_ 12 45 ?_
         refine take_ (i := 9) (N := some 42) (v := ?_) (a' := ?_) #[true, true, true, true, true, true, true, true, true, true, true, true, true, false, false, false, false, false] rfl rfl (take_ofW HT_.out HW_.out (by kernel_rfl)) (fun _ _ _ h => h) (Or.inl ⟨by rfl, ?_⟩) hHeld ?_ ?_
         rotate_left
         · rintro w' ⟨s0, s1⟩
           go_simp
           with_reducible rfl
         rotate_left
         · simp only [Act.put, List.setIfInBounds_toArray, List.set_cons_zero, List.set_cons_succ, i64_w, i32_w]
           rfl
         refine take_ (i := 13) (N := some 46) (v := ?_) (a' := ?_) #[true, true, true, true, true, true, true, true, true, true, true, true, true, true, false, false, false, false] rfl rfl (take_ofW HT_.out HW_.out (by kernel_rfl)) (fun _ _ _ h => h) (Or.inl ⟨by rfl, ?_⟩) hHeld ?_ ?_
         rotate_left
         · rintro w' ⟨s0, s1⟩
           go_simp
           with_reducible rfl
         rotate_left
         · simp only [Act.put, List.setIfInBounds_toArray, List.set_cons_zero, List.set_cons_succ, i64_w, i32_w]
           rfl
         refine pq_ 14 47 ?_
         refine last_ (i := 15) (N := none) #[true, true, true, true, true, true, true, true, true, true, true, true, true, true, true, true, false, false] rfl rfl (one_of HT_.out (by kernel_rfl)) (by decide) (fun K hK => ?_)
         refine skip_ (w1 := ?_) (by rfl) rfl ?_ ?_
         rotate_left
         · go_simp
           rfl
         refine hK.out _ _ ?_
         clear hK K
         refine pq_ 16 48 ?_
         refine last_ (i := 17) (N := none) #[true, true, true, true, true, true, true, true, true, true, true, true, true, true, true, true, true, true] rfl rfl (one_of HT_.out (by kernel_rfl)) (by decide) (fun K hK => ?_)
         refine skip_ (w1 := ?_) (by rfl) rfl ?_ ?_
         rotate_left
         · go_simp
           rfl
         refine hK.out _ _ ?_
         clear hK K
         refine done_ (done_of HT_.out (by kernel_rfl)) ?_
         try go_wp2
         go_roundg k2
         case measure => have := HK1.out; have := HK2.out; omega
         case rel => exact ⟨(y153), (ji8), (by first | rfl | (simp; done) | (simp only [← hji8] <;> (first | rfl | simp)) | (simp [*]; done)), H', ⟨zs10_8⟩, ⟨by (with_reducible repeat (first | apply MR_alloc | apply MR_drewN | apply MR_drew)); exact HQ19.out⟩, ⟨by repeat (first | (with_reducible first | exact HK.out | apply Kept.alloc | apply Kept.drewN | apply Kept.drew | refine Kept.setCell ?_ HMgo13.out _ | refine Kept.setCell ?_ HMgo13.out _) | exact HK.out)⟩, ⟨by repeat (first | (with_reducible first | exact HB.out | apply below_alloc | apply pw_below_drewN | apply below_drew1 | refine below_set ?_ GB13.out | refine below_set ?_ GB13.out) | exact HB.out)⟩⟩
       replace H := bf_ c12 H; obtain ⟨rfl, H⟩ := H
       have H' := Aside0.mk H
       clear H
       try go_wp2
       replace HO_0 := Aside0.mk (MR_drew HO_0.out)
       replace HK := Aside0.mk (Kept.drew HK.out)
       replace HB := Aside0.mk (below_drew1 HB.out)
       obtain ⟨Ao21, co21, eo21⟩ := MR_slice HO_0.out
       (first | subst eo21 | (injection eo21 with f1_ f2_ f3_; have f4_ := f1_.symm; have f5_ := f3_.symm; clear f1_ f2_ f3_; subst f4_; subst f5_))
       have p147 : 0 ≤ (x7_2 : Int) := of_decide_eq_true zda0_
       have q147 : x7_2 < (x0_2.length : Int) := of_decide_eq_true zda0_
       obtain ⟨ad147, e147, hx147_0⟩ := Kd.at_int (MR_reads' HO_0.out).2.2 x7_2 p147 q147
       cases e147
       replace p147 := eq_true p147
       replace q147 := eq_true q147
       have p148 : 0 ≤ ((ji8) : Int) := of_decide_eq_true zda0_
       have q148 : (ji8) < (x0_2.length : Int) := of_decide_eq_true zda0_
       obtain ⟨ad148, e148, hx148_0⟩ := Kd.at_int (MR_reads' HO_0.out).2.2 (ji8) p148 q148
       obtain rfl : ad147 = ad148 := (by injection e148)
       replace p148 := eq_true p148
       replace q148 := eq_true q148
       refine start_ (n := 15) (S := fun w' => w'.cell? (ad147.add (x7_2).toNat) = some (.int .u8 (rd x0_2 x7_2)) ∧ w'.cell? (ad147.add ((ji8)).toNat) = some (.int .u8 (rd x0_2 (ji8)))) (ds := []) #[false, false, false, false, false, false, false, false, false, false, false, false, false, false, false] (by kernel_rfl) rfl rfl ⟨hx147_0, hx148_0⟩ (fun hHeld => ?_); refine with_tabW gd_ins.tab4 gd_ins.bits4 (fun HT_ HW_ => ?_)
       generalize wr.drew = w20 at HO_0 HK HB hx147_0 hx148_0 hHeld ⊢
       refine pq_ 0 16 ?_
       refine pq_ 1 17 ?_
       refine pq_ 2 18 ?_
       refine pq_ 3 19 ?_
       refine pq_ 4 20 ?_
       refine pq_ 5 21 ?_
       refine pq_ 6 22 ?_
       refine pq_ 8 24 ?_
       refine pq_ 9 25 ?_
       refine pq_ 10 26 ?_
       refine pq_ 11 27 ?_
       refine take_ (i := 7) (N := some 23) (v := ?_) (a' := ?_) #[true, true, true, true, true, true, true, true, true, true, true, true, false, false, false] rfl rfl (take_ofW HT_.out HW_.out (by kernel_rfl)) (fun _ _ _ h => h) (Or.inl ⟨by rfl, ?_⟩) hHeld ?_ ?_
       rotate_left
       · rintro w' ⟨s0, s1⟩
         go_simp
         with_reducible rfl
       rotate_left
       · simp only [Act.put, List.setIfInBounds_toArray, List.set_cons_zero, List.set_cons_succ, i64_w, i32_w]
         rfl
       refine take_ (i := 12) (N := some 28) (v := ?_) (a' := ?_) #[true, true, true, true, true, true, true, true, true, true, true, true, true, false, false] rfl rfl (take_ofW HT_.out HW_.out (by kernel_rfl)) (fun _ _ _ h => h) (Or.inl ⟨by rfl, ?_⟩) hHeld ?_ ?_
       rotate_left
       · rintro w' ⟨s0, s1⟩
         go_simp
         with_reducible rfl
       rotate_left
       · simp only [Act.put, List.setIfInBounds_toArray, List.set_cons_zero, List.set_cons_succ, i64_w, i32_w]
         rfl
       refine one_ (i := 13) (N := some 29) #[true, true, true, true, true, true, true, true, true, true, true, true, true, true, false] rfl rfl (one_of HT_.out (by kernel_rfl)) (by decide) (fun K hK => ?_)
       refine goes_ Tryz.func160 (by kernel_rfl) rfl #[.int .u8 (rd x0_2 x7_2), .int .u8 (rd x0_2 (ji8))] (by rfl) rfl rfl zq10_0_ ?_
       with_reducible refine (cmp_Less_byte.calls (rd x0_2 x7_2) (rd x0_2 (ji8)) false _ A11.out).mono ?_
       rintro e w' ⟨rfl, ⟨nd, rfl⟩⟩
       refine ⟨_, rfl, ?_⟩
       refine hK.out _ _ ⟨hHeld.1, hHeld.2⟩ (fun hHeld => ?_)
       clear hK K
       refine norm_ (a' := ?_) ?_ ?_
       rotate_left
       · show Act.put _ (some 29) _ = _
         simp only [Act.put, List.setIfInBounds_toArray, List.set_cons_zero, List.set_cons_succ, i64_w, i32_w]
         rfl
       refine pq_ 14 30 ?_
       refine done_ (done_of HT_.out (by kernel_rfl)) ?_
       try go_wp2
       go_roundg k2
       case measure => have := HK1.out; have := HK2.out; omega
       case rel => exact ⟨(x0_2), (wrap64 (x6_1 + 1)), zV_, H', ⟨zs10_8⟩, ⟨zs10_6⟩, ⟨zs10_5⟩, ⟨zB_⟩⟩
     rw [if_neg c5] at H
     have c5b0 : decide (a1 < x7_2) = false := decide_eq_false c5
     clear c5
     have H' := Aside0.mk H
     clear H
     try go_wp2
     replace HO_0 := Aside0.mk (MR_drew HO_0.out)
     replace HK := Aside0.mk (Kept.drew HK.out)
     replace HB := Aside0.mk (below_drew1 HB.out)
     refine start_ (n := 15) (S := fun w' => True) (ds := []) #[false, false, false, false, false, false, false, false, false, false, false, false, false, false, false] (by kernel_rfl) rfl rfl trivial (fun hHeld => ?_); refine with_tabW gd_ins.tab4 gd_ins.bits4 (fun HT_ HW_ => ?_)
     generalize wr.drew = w22 at HO_0 HK HB hHeld ⊢
     refine pq_ 0 16 ?_
     refine pq_ 1 17 ?_
     refine pq_ 2 18 ?_
     refine pq_ 3 19 ?_
     refine pn_ 4 20 ?_
     refine pn_ 5 21 ?_
     refine pn_ 6 22 ?_
     refine pn_ 7 23 ?_
     refine pn_ 8 24 ?_
     refine pn_ 9 25 ?_
     refine pn_ 10 26 ?_
     refine pn_ 11 27 ?_
     refine pn_ 12 28 ?_
     refine pn_ 13 29 ?_
     refine pq_ 14 30 ?_
     refine done_ (done_of HT_.out (by kernel_rfl)) ?_
     try go_wp2
     go_roundg k2
     case measure => have := HK1.out; have := HK2.out; omega
     case rel => exact ⟨(x0_2), (wrap64 (x6_1 + 1)), zV_, H', ⟨zs10_8⟩, ⟨zs10_6⟩, ⟨zs10_5⟩, ⟨zB_⟩⟩

mutual
def gd_cmp.l0 : Nat → List Int → Int → Option (List Int)
 | 0, _, _ => none
 | k + 1, x0, x3 => if x3 < (x0.length : Int) then (if 0 ≤ x3 then (if 0 ≤ (wrap64 (x3 - 1)) then (if (wrap64 (x3 - 1)) < (x0.length : Int) then (if (rd x0 x3) = (rd x0 (wrap64 (x3 - 1))) then (if x3 ≤ (x0.length : Int) then (gd_cmp.l1 k x0 x3 x3 1) else (none)) else (gd_cmp.l0 k x0 (wrap64 (x3 + 1)))) else (none)) else (none)) else (none)) else (some x0)
def gd_cmp.l1 : Nat → List Int → Int → Int → Int → Option (List Int)
 | 0, _, _, _, _ => none
 | k + 1, x0, x3, x4, x5 => if x5 < ((x0.drop x4.toNat).length : Int) then (if 0 ≤ x5 then (if 0 ≤ (wrap64 (x5 - 1)) then (if (wrap64 (x5 - 1)) < ((x0.drop x4.toNat).length : Int) then (if (rd (x0.drop x4.toNat) x5) = (rd (x0.drop x4.toNat) (wrap64 (x5 - 1))) then (gd_cmp.l1 k x0 x3 x4 (wrap64 (x5 + 1))) else (if 0 ≤ x3 then (if x3 < (x0.length : Int) then (gd_cmp.l1 k (x0.set (x3 : Int).toNat (rd (x0.drop x4.toNat) x5)) (wrap64 (x3 + 1)) x4 (wrap64 (x5 + 1))) else (none)) else (none))) else (none)) else (none)) else (none)) else (if 0 ≤ x3 then (if x3 < (x0.length : Int) then (some (x0.take (x3 : Int).toNat)) else (none)) else (none))
end
def gd_cmp.f (k : Nat) (l0 : List Int) : Option (List Int) := if (l0.length : Int) < 2 then (some l0) else (gd_cmp.l0 k l0 1)
theorem gd_cmp.mono_l : ∀ k, (∀ y0 y1, LeO (gd_cmp.l0 k y0 y1) (gd_cmp.l0 (k + 1) y0 y1)) ∧ (∀ y0 y1 y2 y3, LeO (gd_cmp.l1 k y0 y1 y2 y3) (gd_cmp.l1 (k + 1) y0 y1 y2 y3))
 | 0 => ⟨fun _ _ r h => by simp [gd_cmp.l0] at h, fun _ _ _ _ r h => by simp [gd_cmp.l1] at h⟩
 | k + 1 => by
  obtain ⟨ih0, ih1⟩ := gd_cmp.mono_l k
  refine ⟨?_, ?_⟩
  · intro y0 y1
    unfold gd_cmp.l0
    have m1_ := @ih0
    have m2_ := @ih1
    exact zM_
  intro y0 y1 y2 y3
  unfold gd_cmp.l1
  have m1_ := @ih0
  have m2_ := @ih1
  exact zM_
theorem gd_cmp.mono : ∀ a0 k, LeO (gd_cmp.f k a0) (gd_cmp.f (k + 1) a0) := by
 intro a0 k
 obtain ⟨ih0, ih1⟩ := gd_cmp.mono_l k
 unfold gd_cmp.f
 have m1_ := @ih0
 have m2_ := @ih1
 exact zM_
theorem gd_cmp.calls (k : Nat) (P0_ : Nat → Prop) (u9000_ : Value) (l0 : List Int) (r : List Int) (w0 w : World) (hB : Below w0.heap.size w0 w) (ho0 : MR 5 w w0.heap.size P0_ u9000_ l0) (h : gd_cmp.f k l0 = some r) :
 Calls Tryz.prog 117 #[u9000_] w fun e w' => ∃ v0_ : Value, e = .returned (v0_) ∧ MR 5 w' w0.heap.size (fun k_ => (P0_ k_ ∨ w.heap.size ≤ k_)) v0_ r ∧ Below w0.heap.size w0 w' ∧ Kept w w' (fun k_ => P0_ k_) := by
 have HO0 := Aside0.mk (show MR 5 w w0.heap.size (fun k_ => (P0_ k_ ∨ w.heap.size ≤ k_)) u9000_ l0 from MR_mono ho0 (fun k_ hk => (.inl hk)))
 have HK := Aside0.mk (Kept.refl w (fun k_ => P0_ k_))
 have HW0 := Aside0.mk hB.size
 have HB := Aside0.mk hB
 clear hB
 unfold gd_cmp.f at h
 have H := h
 clear h
 by_cases c2 : (l0.length : Int) < 2
 · rw [if_pos c2] at H
   have c2b0 := decide_eq_true c2
   have c2b1 : decide (l0.length < 2) = true := decide_eq_true (by omega)
   clear c2
   obtain rfl := Option.some.inj H
   obtain ⟨Ao3, co3, eo3⟩ := MR_slice HO0.out
   subst eo3
   go_enter Tryz.func117, Tryz.ntmps117
   go_wp2
   repeat (go_quiet (fail); try go_wp2)
   go_ret
   exact ⟨_, zs10_9, zs10_4, zs10_7, zs10_5⟩
 rw [if_neg c2] at H
 have c2b0 := decide_eq_false c2
 have c2b1 : decide (l0.length < 2) = false := decide_eq_false (by omega)
 clear c2
 have H' := Aside0.mk H
 clear H
 obtain ⟨go4, co4, eo4, gb4, gl4, cl4, HG4⟩ := MR_form HO0.out (by have := of_decide_eq_false c2b1; omega)
 have GB4 := Aside0.mk gb4
 clear gb4 gl4 HG4
 subst eo4
 go_enter Tryz.func117, Tryz.ntmps117
 go_wp2
 repeat (go_quiet (fail); try go_wp2)
 go_loopg [3] k (fun kq v3 w' => ∃ (x0_1 : List Int) (x3_1 : Int), v3 = .int .i64 x3_1 ∧ Aside0 (gd_cmp.l0 kq x0_1 x3_1 = some r) ∧ Aside0 (kq ≤ k) ∧ Aside0 (MR 5 w' w0.heap.size (fun k_ => (P0_ k_ ∨ w.heap.size ≤ k_)) (.slice (some ⟨go4, 0, none⟩) l0.length co4) x0_1) ∧ Aside0 (Kept w w' (fun k_ => P0_ k_)) ∧ Aside0 (Below w0.heap.size w0 w'))
 case atStart => exact ⟨(l0), (1), zdb1_, H', ⟨Nat.le_refl _⟩, ⟨zs10_4⟩, ⟨zs10_5⟩, ⟨zB_⟩⟩
 case round =>
  clear H'
  obtain ⟨x0_1, x3_1, rfl, HA, HK1, HO_0, HK, HB⟩ := hrel
  have hl0_1 := (MR_reads' HO_0.out).1
  rw [hl0_1] at HO_0
  (try simp only [hl0_1])
  cases gk with
  | zero => exact absurd HA.out (by simp [gd_cmp.l0])
  | succ k1 =>
   have H := HA.out
   clear HA
   simp only [gd_cmp.l0] at H
   by_cases c5 : x3_1 < (x0_1.length : Int)
   rotate_left
   · rw [if_neg c5] at H
     have c5b0 := decide_eq_false c5
     clear c5
     obtain rfl := Option.some.inj H
     go_wp2
     repeat (go_quiet (fail); try go_wp2)
     go_ret
     exact ⟨_, zs10_9, zs10_6, zs10_7, zs10_5⟩
   rw [if_pos c5] at H
   have c5b0 := decide_eq_true c5
   clear c5
   replace H := gd_ H; obtain ⟨c6, H⟩ := H
   have c6b0 : decide (0 ≤ x3_1) = true := decide_eq_true c6
   clear c6
   obtain ⟨ji7, hji7⟩ : ∃ j_ : Int, (wrap64 (x3_1 - 1)) = j_ := ⟨_, rfl⟩
   replace H : (if 0 ≤ (ji7) then (if (ji7) < (x0_1.length : Int) then (if (rd x0_1 x3_1) = (rd x0_1 (ji7)) then (if x3_1 ≤ (x0_1.length : Int) then (gd_cmp.l1 k1 x0_1 x3_1 x3_1 1) else (none)) else (gd_cmp.l0 k1 x0_1 (wrap64 (x3_1 + 1)))) else (none)) else (none)) = some r := by first | (rw [hji7] at H; exact H) | (simp only [hji7] at H ⊢; exact H)
   have hji7w : (IntKind.i64.wrap (x3_1 - 1)) = ji7 := (i64_w _).trans hji7
   replace H := gd_ H; obtain ⟨c8, H⟩ := H
   have c8b0 : decide (0 ≤ (ji7)) = true := decide_eq_true c8
   clear c8
   replace H := gd_ H; obtain ⟨c9, H⟩ := H
   have c9b0 : decide ((ji7) < (x0_1.length : Int)) = true := decide_eq_true c9
   clear c9
   by_cases c10 : (rd x0_1 x3_1) = (rd x0_1 (ji7))
   · obtain ⟨H, c10b0, c10b1⟩ := ep_ c10 H
     clear c10
     have c11b0 := eq_true (of_decide_eq_true zdb0_ : 0 ≤ x3_1)
     replace H := gd_ H; obtain ⟨c12, H⟩ := H
     have c12b0 := eq_true c12
     have c12b1 : decide (x3_1 ≤ (x0_1.length : Int)) = true := decide_eq_true c12
     clear c12
     obtain ⟨y267, hy267⟩ : ∃ y_ : List Int, y_ = (x0_1.drop (x3_1 : Int).toNat) := ⟨_, rfl⟩
     replace H : (gd_cmp.l1 k1 x0_1 x3_1 x3_1 1) = some r := by first | (rw [hy267]; with_reducible exact H) | (have H2_ := (Option.bind_some _ _).symm.trans H; rw [hy267]; with_reducible exact H2_) | (have H2_ := (Option.bind_some _ _).symm.trans H; with_reducible exact H2_) | with_reducible exact H | (rw [hy267]; exact H) | exact H
     have Ny267 := Aside0.mk hy267
     clear hy267
     have H' := Aside0.mk H
     clear H
     have p265 : 0 ≤ (x3_1 : Int) := of_decide_eq_true zdb0_
     have q265 : x3_1 < (x0_1.length : Int) := of_decide_eq_true zdb0_
     obtain ⟨ad265, e265, hx265_0⟩ := Kd.at_int (MR_reads' HO_0.out).2.2 x3_1 p265 q265
     cases e265
     replace p265 := eq_true p265
     replace q265 := eq_true q265
     have p266 : 0 ≤ ((ji7) : Int) := of_decide_eq_true zdb0_
     have q266 : (ji7) < (x0_1.length : Int) := of_decide_eq_true zdb0_
     obtain ⟨ad266, e266, hx266_0⟩ := Kd.at_int (MR_reads' HO_0.out).2.2 (ji7) p266 q266
     cases e266; simp only [add_plain] at hx265_0 hx266_0
     replace p266 := eq_true p266
     replace q266 := eq_true q266
     have q13 : (x3_1 : Int) ≤ ((x0_1.length : Int) : Int) := of_decide_eq_true zdb0_
     obtain ⟨i013, hi013, _, hsz13, _⟩ := info_parts info5
     have hroom13 : x0_1.length ≤ co4 := (MR_reads' HO_0.out).2.1
     have hC13 : Kd.C (Kd.int .u8) _ (some ⟨go4, 0, none⟩) x0_1.length x0_1 := (MR_reads' HO_0.out).2.2
     have q013 : (0 : Int) ≤ (x3_1 : Int) := of_decide_eq_true zdb0_
     have hcut13 := cut_from (P := Tryz.prog) 22 5 .i64 Tryz.underlying22 hi013 1 hsz13 (some ⟨go4, 0, none⟩) x0_1.length co4 x3_1 q013 q13
     have hr13 := Kd.C_drop (m := (x3_1 : Int).toNat) (c := co4) hC13 (by omega) hroom13
     obtain ⟨A13, hA13⟩ : ∃ A1, A1 = (if co4 = (x3_1 : Int).toNat then (some ⟨go4, 0, none⟩) else ((some ⟨go4, 0, none⟩) : Option Addr).map (·.add ((x3_1 : Int).toNat * 1))) := ⟨_, rfl⟩
     obtain ⟨c13, hc13⟩ : ∃ c1, c1 = co4 - (x3_1 : Int).toNat := ⟨_, rfl⟩
     have hy13 : y267.length = x0_1.length - (x3_1 : Int).toNat := (by rw [Ny267.out, List.length_drop] <;> omega)
     rw [show (x0_1).drop (x3_1 : Int).toNat = y267 from Ny267.out.symm] at hr13
     replace hr13 : Kd.C (Kd.int .u8) _ A13 y267.length y267 := (by rw [hA13]; exact hr13)
     rw [← hy13, ← hA13, ← hc13] at hcut13
     have HR270 := Aside0.mk hr13
     have HC270 := Aside0.mk (show y267.length ≤ c13 from by rw [hy13, hc13]; exact Nat.sub_le_sub_right hroom13 _)
     clear hr13 hC13 hroom13 hi013 hsz13 hc13
     have KY13 := Aside0.mk hy13
     have KA13 := Aside0.mk hA13
     clear hy13 hA13
     have KL13 := Aside0.mk (show (x3_1 : Int).toNat ≤ x0_1.length from by omega)
     replace q13 := eq_true q13
     go_wp2
     repeat (go_quiet (fail); try go_wp2)
     go_loopg [3, 5] k1 (fun kq v3 v5 w' => ∃ (x0_2 : List Int) (x3_2 : Int) (x5_2 : Int), v3 = .int .i64 x3_2 ∧ v5 = .int .i64 x5_2 ∧ Aside0 (gd_cmp.l1 kq x0_2 x3_2 x3_1 x5_2 = some r) ∧ Aside0 (kq ≤ k1) ∧ Aside0 (MR 5 w' w0.heap.size (fun k_ => (P0_ k_ ∨ w.heap.size ≤ k_)) (.slice (some ⟨go4, 0, none⟩) x0_1.length co4) x0_2) ∧ Aside0 (Kept w w' (fun k_ => P0_ k_)) ∧ Aside0 (Below w0.heap.size w0 w'))
     case atStart => exact ⟨(x0_1), (x3_1), (1), zdb1_, zdb1_, H', ⟨Nat.le_refl _⟩, ⟨zs10_10⟩, ⟨zs10_5⟩, ⟨zB_⟩⟩
     case round =>
      clear H'
      obtain ⟨x0_2, x3_2, x5_2, rfl, rfl, HA, HK2, HO_0, HK, HB⟩ := hrel
      have hl0_2 := (MR_reads' HO_0.out).1
      rw [hl0_2] at HO_0
      (try simp only [hl0_2])
      cases gk with
      | zero => exact absurd HA.out (by simp [gd_cmp.l1])
      | succ k2 =>
       have H := HA.out
       clear HA
       simp only [gd_cmp.l1] at H
       obtain ⟨z267, hz267⟩ : ∃ z_ : List Int, z_ = x0_2.drop x3_1.toNat := ⟨_, rfl⟩
       rw [← hz267] at H
       have hle267 : x3_1.toNat ≤ x0_2.length := by have := KL13.out; omega
       have hzl : z267.length = y267.length := by rw [hz267, List.length_drop, KY13.out, hl0_2]
       simp only [hzl] at H
       have HRz : Aside0 (Kd.C (Kd.int .u8) _ A13 y267.length z267) := ⟨by have hC := (MR_reads' HO_0.out).2.2; have hr := Kd.C_drop (m := x3_1.toNat) (c := co4) hC hle267 (MR_reads' HO_0.out).2.1; rw [← hz267, hzl] at hr; rw [KA13.out]; exact hr⟩
       clear hz267 hle267
       by_cases c14 : x5_2 < (y267.length : Int)
       · rw [if_pos c14] at H
         have c14b0 := decide_eq_true c14
         clear c14
         replace H := gd_ H; obtain ⟨c15, H⟩ := H
         have c15b0 : decide (0 ≤ x5_2) = true := decide_eq_true c15
         clear c15
         obtain ⟨ji16, hji16⟩ : ∃ j_ : Int, (wrap64 (x5_2 - 1)) = j_ := ⟨_, rfl⟩
         replace H : (if 0 ≤ (ji16) then (if (ji16) < (y267.length : Int) then (if (rd z267 x5_2) = (rd z267 (ji16)) then (gd_cmp.l1 k2 x0_2 x3_2 x3_1 (wrap64 (x5_2 + 1))) else (if 0 ≤ x3_2 then (if x3_2 < (x0_2.length : Int) then (gd_cmp.l1 k2 (x0_2.set (x3_2 : Int).toNat (rd z267 x5_2)) (wrap64 (x3_2 + 1)) x3_1 (wrap64 (x5_2 + 1))) else (none)) else (none))) else (none)) else (none)) = some r := by first | (rw [hji16] at H; exact H) | (simp only [hji16] at H ⊢; exact H)
         have hji16w : (IntKind.i64.wrap (x5_2 - 1)) = ji16 := (i64_w _).trans hji16
         replace H := gd_ H; obtain ⟨c17, H⟩ := H
         have c17b0 : decide (0 ≤ (ji16)) = true := decide_eq_true c17
         clear c17
         replace H := gd_ H; obtain ⟨c18, H⟩ := H
         have c18b0 : decide ((ji16) < (y267.length : Int)) = true := decide_eq_true c18
         clear c18
         by_cases c19 : (rd z267 x5_2) = (rd z267 (ji16))
         · obtain ⟨H, c19b0, c19b1⟩ := ep_ c19 H
           clear c19
           have H' := Aside0.mk H
           clear H
           have p271 : 0 ≤ (x5_2 : Int) := of_decide_eq_true zdb0_
           have q271 : x5_2 < (y267.length : Int) := of_decide_eq_true zdb0_
           obtain ⟨ad271, e271, hx271_0⟩ := Kd.at_int HRz.out x5_2 p271 q271
           cases e271
           replace p271 := eq_true p271
           replace q271 := eq_true q271
           have p272 : 0 ≤ ((ji16) : Int) := of_decide_eq_true zdb0_
           have q272 : (ji16) < (y267.length : Int) := of_decide_eq_true zdb0_
           obtain ⟨ad272, e272, hx272_0⟩ := Kd.at_int HRz.out (ji16) p272 q272
           obtain rfl : ad271 = ad272 := (by injection e272)
           replace p272 := eq_true p272
           replace q272 := eq_true q272
           go_wp2
           repeat (go_quiet (fail); try go_wp2)
           (try simp only [← hl0_2])
           go_roundg k2
           case measure => have := HK1.out; have := HK2.out; omega
           case rel => exact ⟨(x0_2), (x3_2), (wrap64 (x5_2 + 1)), zdb1_, zdb1_, H', ⟨zs10_8⟩, ⟨by (try simp only [hl0_1]); (try simp only [hl0_2]); (with_reducible repeat (first | apply MR_alloc | apply MR_drewN | apply MR_drew)); exact HO_0.out⟩, ⟨zs10_5⟩, ⟨zB_⟩⟩
         obtain ⟨H, c19b0, c19b1⟩ := en_ c19 H
         replace H := gd_ H; obtain ⟨c20, H⟩ := H
         have c20b0 : decide (0 ≤ x3_2) = true := decide_eq_true c20
         clear c20
         replace H := gd_ H; obtain ⟨c21, H⟩ := H
         have c21b0 : decide (x3_2 < (x0_2.length : Int)) = true := decide_eq_true c21
         clear c21
         obtain ⟨y274, hy274⟩ : ∃ y_ : List Int, y_ = (x0_2.set (x3_2 : Int).toNat (rd z267 x5_2)) := ⟨_, rfl⟩
         replace H : (gd_cmp.l1 k2 y274 (wrap64 (x3_2 + 1)) x3_1 (wrap64 (x5_2 + 1))) = some r := by first | (rw [hy274]; with_reducible exact H) | (have H2_ := (Option.bind_some _ _).symm.trans H; rw [hy274]; with_reducible exact H2_) | (have H2_ := (Option.bind_some _ _).symm.trans H; with_reducible exact H2_) | with_reducible exact H | (rw [hy274]; exact H) | exact H
         have Ny274 := Aside0.mk hy274
         clear hy274
         have H' := Aside0.mk H
         clear H
         have p271 : 0 ≤ (x5_2 : Int) := of_decide_eq_true zdb0_
         have q271 : x5_2 < (y267.length : Int) := of_decide_eq_true zdb0_
         obtain ⟨ad271, e271, hx271_0⟩ := Kd.at_int HRz.out x5_2 p271 q271
         cases e271
         replace p271 := eq_true p271
         replace q271 := eq_true q271
         have p272 : 0 ≤ ((ji16) : Int) := of_decide_eq_true zdb0_
         have q272 : (ji16) < (y267.length : Int) := of_decide_eq_true zdb0_
         obtain ⟨ad272, e272, hx272_0⟩ := Kd.at_int HRz.out (ji16) p272 q272
         obtain rfl : ad271 = ad272 := (by injection e272)
         replace p272 := eq_true p272
         replace q272 := eq_true q272
         have p273 : 0 ≤ (x5_2 : Int) := of_decide_eq_true zdb0_
         have q273 : x5_2 < (y267.length : Int) := of_decide_eq_true zdb0_
         obtain ⟨ad273, e273, hx273_0⟩ := Kd.at_int HRz.out x5_2 p273 q273
         obtain rfl : ad271 = ad273 := (by injection e273)
         replace p273 := eq_true p273
         replace q273 := eq_true q273
         have p22 : 0 ≤ (x3_2 : Int) := of_decide_eq_true zdb0_
         have q22 : (x3_2 : Int) < ((x0_2.length : Int) : Int) := of_decide_eq_true zdb0_
         have HMgo4 := Aside0.mk (show (P0_ go4 ∨ w.heap.size ≤ go4) from (HO_0.out.1 _ rfl))
         (first | simp only [add_plain] at hx265_0 | skip)
         (first | simp only [add_plain] at hx266_0 | skip)
         obtain ⟨hx22_0, hf22_0⟩ := MR_celln 0 HO_0.out (x3_2 : Int) p22 q22
         replace p22 := eq_true p22
         replace q22 := eq_true q22
         go_wp2
         repeat (go_quiet (fail); try go_wp2)
         (try simp only [← hl0_2])
         go_roundg k2
         case measure => have := HK1.out; have := HK2.out; omega
         case rel => exact ⟨(y274), (wrap64 (x3_2 + 1)), (wrap64 (x5_2 + 1)), zdb1_, zdb1_, H', ⟨zs10_8⟩, ⟨by (try simp only [hl0_1]); (try simp only [hl0_2]); rw [Ny274.out]; exact (MR_putg (MR_drewN HO_0.out _) _ _).1⟩, ⟨Kept.of_grown (S := (fun k_ => P0_ k_)) (MR_putg (MR_drewN HO_0.out _) (x3_2 : Int) (rd z267 x5_2)).2 (Kept.drewN HK.out _) (fun k_ e_ => (HO_0.out.1 k_ e_))⟩, ⟨below_set (pw_below_drewN HB.out _) GB4.out⟩⟩
       rw [if_neg c14] at H
       have c14b0 := decide_eq_false c14
       clear c14
       replace H := gd_ H; obtain ⟨c25, H⟩ := H
       have c25b0 := eq_true c25
       have c25b1 : decide (0 ≤ x3_2) = true := decide_eq_true c25
       clear c25
       replace H := gd_ H; obtain ⟨c26, H⟩ := H
       have c26c := c26
       have c26b1 : decide (x3_2 ≤ (x0_2.length : Int)) = true := decide_eq_true (Int.le_of_lt c26)
       clear c26
       obtain ⟨y275, hy275⟩ : ∃ y_ : List Int, y_ = (x0_2.drop (x3_2 : Int).toNat) := ⟨_, rfl⟩
       replace H : (some (x0_2.take (x3_2 : Int).toNat)) = some r := by first | (rw [hy275]; with_reducible exact H) | (have H2_ := (Option.bind_some _ _).symm.trans H; rw [hy275]; with_reducible exact H2_) | (have H2_ := (Option.bind_some _ _).symm.trans H; with_reducible exact H2_) | with_reducible exact H | (rw [hy275]; exact H) | exact H
       have Ny275 := Aside0.mk hy275
       clear hy275
       have c27b0 := eq_true (Int.le_of_lt c26c : x3_2 ≤ (x0_2.length : Int))
       obtain ⟨y279, hy279⟩ : ∃ y_ : List Int, y_ = (x0_2.take (x3_2 : Int).toNat) := ⟨_, rfl⟩
       replace H : (some y279) = some r := by first | (rw [hy279]; with_reducible exact H) | (have H2_ := (Option.bind_some _ _).symm.trans H; rw [hy279]; with_reducible exact H2_) | (have H2_ := (Option.bind_some _ _).symm.trans H; with_reducible exact H2_) | with_reducible exact H | (rw [hy279]; exact H) | exact H
       have Ny279 := Aside0.mk hy279
       clear hy279
       obtain rfl := Option.some.inj H
       have q28 : (x3_2 : Int) ≤ ((x0_2.length : Int) : Int) := of_decide_eq_true zdb0_
       obtain ⟨i028, hi028, _, hsz28, _⟩ := info_parts info5
       have hroom28 : x0_2.length ≤ co4 := (MR_reads' HO_0.out).2.1
       have hC28 : Kd.C (Kd.int .u8) _ (some ⟨go4, 0, none⟩) x0_2.length x0_2 := (MR_reads' HO_0.out).2.2
       have q028 : (0 : Int) ≤ (x3_2 : Int) := of_decide_eq_true zdb0_
       have hcut28 := cut_from (P := Tryz.prog) 22 5 .i64 Tryz.underlying22 hi028 1 hsz28 (some ⟨go4, 0, none⟩) x0_2.length co4 x3_2 q028 q28
       have hr28 := Kd.C_drop (m := (x3_2 : Int).toNat) (c := co4) hC28 (by omega) hroom28
       obtain ⟨A28, hA28⟩ : ∃ A1, A1 = (if co4 = (x3_2 : Int).toNat then (some ⟨go4, 0, none⟩) else ((some ⟨go4, 0, none⟩) : Option Addr).map (·.add ((x3_2 : Int).toNat * 1))) := ⟨_, rfl⟩
       obtain ⟨c28, hc28⟩ : ∃ c1, c1 = co4 - (x3_2 : Int).toNat := ⟨_, rfl⟩
       have hy28 : y275.length = x0_2.length - (x3_2 : Int).toNat := (by rw [Ny275.out, List.length_drop] <;> omega)
       rw [show (x0_2).drop (x3_2 : Int).toNat = y275 from Ny275.out.symm] at hr28
       replace hr28 : Kd.C (Kd.int .u8) _ A28 y275.length y275 := (by rw [hA28]; exact hr28)
       rw [← hy28, ← hA28, ← hc28] at hcut28
       have HR278 := Aside0.mk hr28
       have HC278 := Aside0.mk (show y275.length ≤ c28 from by rw [hy28, hc28]; exact Nat.sub_le_sub_right hroom28 _)
       clear hr28 hC28 hroom28 hi028 hsz28 hc28
       have KY28 := Aside0.mk hy28
       have KA28 := Aside0.mk hA28
       clear hy28 hA28
       have KL28 := Aside0.mk (show (x3_2 : Int).toNat ≤ x0_2.length from by omega)
       replace q28 := eq_true q28
       have q29 : (x3_2 : Int) ≤ ((x0_2.length : Int) : Int) := of_decide_eq_true zdb0_
       obtain ⟨i029, hi029, _, hsz29, _⟩ := info_parts info5
       have hcut29 := cut_to (P := Tryz.prog) 22 5 .i64 Tryz.underlying22 hi029 (some ⟨go4, 0, none⟩) x0_2.length co4 x3_2 (of_decide_eq_true zdb0_) q29 (MR_reads' HO_0.out).2.1
       have hr29 := MR_take (m := (x3_2 : Int).toNat) HO_0.out (by omega)
       have hy29 : y279.length = (x3_2 : Int).toNat := (by rw [Ny279.out, List.length_take]; omega)
       rw [← Ny279.out] at hr29
       rw [← hy29] at hr29 hcut29
       have HCAP := Aside0.mk (MR_reads' HO_0.out).2.1
       clear hy29 hi029 hsz29 HO_0
       have HO281 := Aside0.mk hr29
       clear hr29
       replace q29 := eq_true q29
       have hroom30 : x0_2.length ≤ co4 := HCAP.out
       have hA30 : A28 = some ⟨go4, x3_2.toNat, none⟩ := by rw [KA28.out, if_neg (by omega)]; simp [add_plain]
       have hoff30 : x3_2.toNat = y279.length := by rw [Ny279.out, List.length_take]; omega
       have hfit30 : x3_2.toNat + y275.length ≤ co4 := by rw [KY28.out]; omega
       have hr30 := HO281.out
       rw [← hoff30] at hr30
       have HCLR := Aside0.mk (MR_clear (P := Tryz.prog) wr 22 5 0 (n := y275.length) (c := c28) Tryz.underlying22 (fun _ => by kernel_rfl) hr30 hfit30)
       have HZ30 := Aside0.mk (MR_zeros y275.length x3_2.toNat wr hr30 (Nat.le_refl _))
       have HO30 := Aside0.mk hoff30
       clear hfit30 hoff30 hroom30 hr30 HO281
       subst hA30
       go_wp2
       rw [HCLR.out]
       generalize wr.setCells go4 x3_2.toNat (List.replicate y275.length (.int .u8 0)) = w31 at HZ30 ⊢
       have n0_ := HZ30.out.1
       rw [HO30.out] at n0_
       have HO281 := Aside0.mk n0_
       have n1_ := Aside0.mk (Below.grown HB.out HZ30.out.2 (by have := HW0.out; have := HB.out.size; omega) (fun k_ e_ => by injection e_ with e_; subst e_; exact GB4.out))
       have n2_ := Aside0.mk (Kept.of_grown (S := (fun k_ => P0_ k_)) HZ30.out.2 HK.out (fun k_ e_ => (HO281.out.1 k_ e_)))
       clear HB HK HCLR HZ30
       have HB := n1_
       have HK := n2_
       clear n0_ n1_ n2_
       go_wp2
       go_ret
       exact ⟨_, by first | rfl | (simp [errW_none, errW_some] <;> rfl) | (simp only [← hji7]; first | rfl | (simp [errW_none, errW_some] <;> rfl)) | (simp [*, errW_none, errW_some] <;> rfl), by (with_reducible repeat (first | apply MR_alloc | apply MR_drewN | apply MR_drew)); exact HO281.out, zs10_7, zs10_5⟩
   obtain ⟨H, c10b0, c10b1⟩ := en_ c10 H
   have H' := Aside0.mk H
   clear H
   have p265 : 0 ≤ (x3_1 : Int) := of_decide_eq_true zdb0_
   have q265 : x3_1 < (x0_1.length : Int) := of_decide_eq_true zdb0_
   obtain ⟨ad265, e265, hx265_0⟩ := Kd.at_int (MR_reads' HO_0.out).2.2 x3_1 p265 q265
   cases e265
   replace p265 := eq_true p265
   replace q265 := eq_true q265
   have p266 : 0 ≤ ((ji7) : Int) := of_decide_eq_true zdb0_
   have q266 : (ji7) < (x0_1.length : Int) := of_decide_eq_true zdb0_
   obtain ⟨ad266, e266, hx266_0⟩ := Kd.at_int (MR_reads' HO_0.out).2.2 (ji7) p266 q266
   cases e266; simp only [add_plain] at hx265_0 hx266_0
   replace p266 := eq_true p266
   replace q266 := eq_true q266
   go_wp2
   repeat (go_quiet (fail); try go_wp2)
   (try simp only [← hl0_1])
   go_roundg k1
   case measure => have := HK1.out; omega
   case rel => exact ⟨(x0_1), (wrap64 (x3_1 + 1)), zdb1_, H', ⟨zs10_3⟩, ⟨zs10_10⟩, ⟨zs10_5⟩, ⟨zB_⟩⟩

-- DIFF
theorem gd_pdq (k : Nat) (P0_ : Nat → Prop) (A : Option Addr) (c : Nat) (l r : List Int) (lim : Int) (w0 w : World) (hB : Below w0.heap.size w0 w) (ho0 : MR 5 w w0.heap.size P0_ (.slice A l.length c) l) (hl : l.length ≤ 12) (h : gd_ins.f k l 0 (l.length : Int) = some r) :
 Calls Tryz.prog 137 #[.slice A l.length c, .int .i64 0, .int .i64 (l.length : Int), .int .i64 lim] w fun e w' => e = .returned (.tuple #[]) ∧ MR 5 w' w0.heap.size (fun k_ => (P0_ k_ ∨ w.heap.size ≤ k_)) (.slice A l.length c) r ∧ Below w0.heap.size w0 w' ∧ Kept w w' (fun k_ => P0_ k_) := by
 have HB := Aside0.mk hB
 have HO := Aside0.mk ho0
 have H := Aside0.mk h
 have c1 : decide ((l.length : Int) ≤ 12) = true := decide_eq_true (by omega)
 have c2 : decide (l.length ≤ 12) = true := decide_eq_true hl
 have hs : wrap64 ((l.length : Int) - 0) = (l.length : Int) := by simp [wrap64]; omega
 have hs' : IntKind.i64.wrap ((l.length : Int) - 0) = (l.length : Int) := by rw [i64_w]; exact hs
 have hs0 : wrap64 (l.length : Int) = (l.length : Int) := by simp [wrap64]; omega
 obtain ⟨n, hn⟩ : ∃ n : Int, n = (l.length : Int) := ⟨_, rfl⟩
 clear hB ho0 h
 rw [← hn] at H hs hs' hs0 c1 ⊢
 have HN := Aside0.mk hn
 clear hn
 go_enter Tryz.func137, Tryz.ntmps137
 go_wp2
 go_loopg [1, 2] 1 (fun kq v1 v2 w' => v1 = .int .i64 0 ∧ v2 = .int .i64 n ∧ Aside0 (w' = w))
 case atStart => exact ⟨rfl, rfl, ⟨rfl⟩⟩
 case round =>
  obtain ⟨rfl, rfl, HE⟩ := hrel
  obtain rfl := HE.out
  go_wp2_with (first | (go_at_call 154; (with_reducible refine (gd_ins.calls k P0_ _ l 0 n r w0 wr HB.out HO.out H.out).mono ?_); rintro e w1 ⟨rfl, ho, hb, hk⟩; have HO1 := Aside0.mk ho; have HB1 := Aside0.mk hb; have HK1 := Aside0.mk hk; clear ho hb hk))
  (first | go_end0 | ((try simp only [Exit.inBlock, Exit.then]); refine bodyPost_ret (results_none rfl _ _ _) rfl ?_))
  exact ⟨rfl, HO1.out, HB1.out, HK1.out⟩
theorem gd_len (n : Nat) (hn : n ≤ 12) (w : World) :
 Calls Tryz.prog 138 #[.int .u64 (n : Int)] w fun e w' => e = .returned (.int .i64 (Lib.bitLen n)) ∧ w' = w := by
 have HN := Aside0.mk hn
 clear hn
 go_enter Tryz.func138, Tryz.ntmps138
 go_wp2_with (first | (go_at_call 147; (with_reducible refine (Shelf.Len64 (n : Int) w (by omega) (by have := HN.out; omega)).mono ?_); rintro e w' ⟨rfl, rfl⟩))
 go_ret
 exact ⟨rfl, rfl⟩
theorem gd_sort (k : Nat) (P0_ : Nat → Prop) (A : Option Addr) (c : Nat) (l r : List Int) (w0 w : World) (hB : Below w0.heap.size w0 w) (ho0 : MR 5 w w0.heap.size P0_ (.slice A l.length c) l) (hl : l.length ≤ 12) (h : gd_ins.f k l 0 (l.length : Int) = some r) :
 Calls Tryz.prog 116 #[.slice A l.length c] w fun e w' => e = .returned (.tuple #[]) ∧ MR 5 w' w0.heap.size (fun k_ => (P0_ k_ ∨ w.heap.size ≤ k_)) (.slice A l.length c) r ∧ Below w0.heap.size w0 w' ∧ Kept w w' (fun k_ => P0_ k_) := by
 have HB := Aside0.mk hB
 have HO := Aside0.mk ho0
 have H := Aside0.mk h
 have HL := Aside0.mk hl
 have hcv : (l.length : Int) % 18446744073709551616 = (l.length : Int) := by omega
 clear hB ho0 h hl
 go_enter Tryz.func116, Tryz.ntmps116
 go_wp2_with (first | (go_at_call 138; (with_reducible refine (gd_len l.length HL.out _).mono ?_); rintro e w' ⟨rfl, rfl⟩) | (go_at_call 137; (with_reducible refine (gd_pdq k P0_ A c l r _ w0 _ HB.out HO.out HL.out H.out).mono ?_); rintro e w1 ⟨rfl, ho, hb, hk⟩; have HO1 := Aside0.mk ho; have HB1 := Aside0.mk hb; have HK1 := Aside0.mk hk; clear ho hb hk))
 (first | go_end0 | ((try simp only [Exit.inBlock, Exit.then]); refine bodyPost_ret (results_none rfl _ _ _) rfl ?_))
 exact ⟨rfl, HO1.out, HB1.out, HK1.out⟩

def impl_differs.f (k : Nat) (a0 : ByteArray) : Option Int := if a0.size ≤ 12 then (gd_ins.f k (bytesOf a0) 0 (a0.size : Int)).bind fun l => (gd_cmp.f k l).bind fun r => some (r.length : Int) else none
theorem impl_differs.mono : ∀ a0 k, LeO (impl_differs.f k a0) (impl_differs.f (k + 1) a0) := by
 intro a0 k
 unfold impl_differs.f
 refine LeO.ite ?_ (LeO.refl _)
 refine LeO.bind (gd_ins.mono _ _ _ _) (fun _ => ?_)
 exact LeO.bind (gd_cmp.mono _ _) (fun _ => LeO.refl _)
theorem impl_differs.calls (k : Nat) (a0 : ByteArray) (r : Int) (w : World) (h : impl_differs.f k a0 = some r) :
 Calls Tryz.prog 96 #[.string a0] w fun e w' => e = .returned (.int .i64 r) ∧ Below w.heap.size w w' := by
 unfold impl_differs.f at h
 by_cases c : a0.size ≤ 12
 rotate_left
 · exact none_ (if_neg c) h
 rw [if_pos c] at h
 obtain ⟨l, hl, h⟩ := Option.bind_eq_some_iff.mp h
 obtain ⟨x, hx, h⟩ := Option.bind_eq_some_iff.mp h
 obtain rfl := Option.some.inj h
 have hn : (bytesOf a0).length = a0.size := (bytes_reads w 5 a0 (by omega)).1
 have hg := grown_le w a0.size 5 (by omega)
 have hm := MR_conv w 5 a0 (by omega) w.heap.size (Nat.le_refl _) hg.2 hg.1
 rw [← hn] at hl hm
 have HB := Aside0.mk (bytes_below (Below.refl w.heap.size w) (Nat.le_refl _) 5 a0)
 have HI := Aside0.mk hl
 have HX := Aside0.mk hx
 have HL := Aside0.mk (show (bytesOf a0).length ≤ 12 by omega)
 have hcv := Lib.run_convert_string_bytes (P := Tryz.prog) w 9 22 5 a0 (u := .string) Tryz.underlying9 Tryz.underlying22 Tryz.underlying5
 rw [← hn] at hcv
 generalize Lib.bytesWorld w 5 a0 = w1 at hm HB hcv
 generalize grownCap w (bytesOf a0).length 0 5 = cap at hm hcv
 generalize bytesOf a0 = bs at hm HI HL hcv
 have HO := Aside0.mk hm
 clear hm hg hn hl hx c h
 go_enter Tryz.func96, Tryz.ntmps96
 go_wp2_with (first | (go_at_call 116; (with_reducible refine (gd_sort k _ _ cap bs l w w1 HB.out HO.out HL.out HI.out).mono ?_); rintro e w2 ⟨rfl, ho, hb, hk⟩; have hln := (MR_reads' ho).1; rw [hln] at ho ⊢; have HO1 := Aside0.mk ho; have HB1 := Aside0.mk hb; clear ho hb hk hln) | (go_at_call 117; (with_reducible refine (gd_cmp.calls k _ _ l x w w2 HB1.out HO1.out HX.out).mono ?_); rintro e w3 ⟨v, rfl, ho, hb, hk⟩; have HB2 := Aside0.mk hb; obtain ⟨A3, c3, rfl⟩ := MR_slice ho; clear ho hb hk))
 go_ret
 exact ⟨rfl, HB2.out⟩

theorem z9_1_ {p : Prop} (h : p := by (try simp only [List.map_toArray, List.map_cons, List.map_nil]); first | done | rfl | (simp only [List.length_drop, List.length_take]; rfl)) : p := h
theorem z9_2_ {p : Prop} (h : p := by repeat (first | (with_reducible first | exact HB.out | apply below_alloc | apply pw_below_drewN | apply below_drew1 | refine below_set ?_ GE257.out) | exact HB.out)) : p := h
theorem z9_3_ {p : Prop} (h : p := by exact b_ BK257.out) : p := h

/-! ### impl_told: function 71 -/
def impl_told.f (k : Nat) (a0 : Int) (a1 : Int) (a2 : ByteArray) : Option (Int) := if a0 = 0 then (if 0 ≤ (wrap64 (2 * a1)) then (if (wrap64 (2 * a1)) ≤ (wrap64 ((wrap64 (2 * a1)) + 2)) then (if (wrap64 ((wrap64 (2 * a1)) + 2)) ≤ (a2.size : Int) then ((impl_sumOf.f k (a2.extract ((wrap64 (2 * a1)) : Int).toNat ((wrap64 ((wrap64 (2 * a1)) + 2)) : Int).toNat)).bind fun t249 => (some t249)) else (none)) else (none)) else (none)) else (if a0 = 1 then (if 0 ≤ a1 then (if a1 < (a2.size : Int) then (some (((bt a2 a1) - 48) % 256)) else (none)) else (none)) else (if a0 = 2 then ((impl_isLucky.f k a2).bind fun t250 => ((impl_bit.f t250).bind fun t251 => (some t251))) else (if a0 = 3 then (if 0 ≤ a1 then (if a1 < (a2.size : Int) then (if 0 ≤ (wrap64 (a1 + 1)) then (if (wrap64 (a1 + 1)) < (a2.size : Int) then ((impl_bit.f (decide ((bt a2 a1) < (bt a2 (wrap64 (a1 + 1)))))).bind fun t252 => (some t252)) else (none)) else (none)) else (none)) else (none)) else ((impl_differs.f k a2).bind fun t253 => (some t253)))))
theorem impl_told.mono : ∀ a0 a1 a2 k, LeO (impl_told.f k a0 a1 a2) (impl_told.f (k + 1) a0 a1 a2) := by
 intro a0 a1 a2 k
 unfold impl_told.f
 have m1_ := @impl_differs.mono
 have m2_ := @impl_isLucky.mono
 have m3_ := @impl_sumOf.mono
 exact zM_
theorem impl_told.calls (k : Nat) (a0 : Int) (a1 : Int) (a2 : ByteArray) (r : Int) (w : World) (h : impl_told.f k a0 a1 a2 = some r) :
 Calls Tryz.prog 71 #[.int .i64 a0, .int .i64 a1, .string a2] w fun e w' => e = .returned (.int .i64 r) ∧ Below w.heap.size w w' := by
 have HB := Aside0.mk (Below.refl w.heap.size w)
 unfold impl_told.f at h
 have H := h
 clear h
 by_cases c4 : a0 = 0
 · obtain ⟨H, c4b0, c4b1⟩ := ep_ c4 H
   clear c4
   obtain ⟨ji5, hji5⟩ : ∃ j_ : Int, (wrap64 (2 * a1)) = j_ := ⟨_, rfl⟩
   replace H : (if 0 ≤ (ji5) then (if (ji5) ≤ (wrap64 ((ji5) + 2)) then (if (wrap64 ((ji5) + 2)) ≤ (a2.size : Int) then ((impl_sumOf.f k (a2.extract ((ji5) : Int).toNat ((wrap64 ((ji5) + 2)) : Int).toNat)).bind fun t249 => (some t249)) else (none)) else (none)) else (none)) = some r := by first | (rw [hji5] at H; exact H) | (simp only [hji5] at H ⊢; exact H)
   have hji5w : (IntKind.i64.wrap (2 * a1)) = ji5 := (i64_w _).trans hji5
   replace H := gd_ H; obtain ⟨c6, H⟩ := H
   have c6b0 := eq_true c6
   have c6b1 : decide (0 ≤ (ji5)) = true := decide_eq_true c6
   clear c6
   replace H := gd_ H; obtain ⟨c7, H⟩ := H
   have c7b0 := eq_true c7
   have c7b1 : decide ((ji5) ≤ (wrap64 ((ji5) + 2))) = true := decide_eq_true c7
   replace H := gd_ H; obtain ⟨c8, H⟩ := H
   have c8b0 := eq_true c8
   have c8b1 : decide ((wrap64 ((ji5) + 2)) ≤ (a2.size : Int)) = true := decide_eq_true c8
   replace H := bd_ H; obtain ⟨t249, A9, H⟩ := H
   obtain rfl := Option.some.inj H
   go_enter Tryz.func71, Tryz.ntmps71
   go_wp2_with (first | (go_at_call 93; (with_reducible refine (impl_sumOf.calls k (a2.extract ((ji5) : Int).toNat ((wrap64 ((ji5) + 2)) : Int).toNat) t249 _ A9.out).mono ?_); rintro e w' ⟨rfl, ⟨nd, rfl⟩⟩; (try first | exact ⟨rfl, _, World.drewN_drewN _ _ _⟩ | exact ⟨rfl, _, Eq.trans (World.drewN_drewN _ _ _) (congrArg (World.drewN _) (Nat.add_assoc _ _ _))⟩)))
   repeat (go_quiet (fail); try go_wp2_with (first | (go_at_call 93; (with_reducible refine (impl_sumOf.calls k (a2.extract ((ji5) : Int).toNat ((wrap64 ((ji5) + 2)) : Int).toNat) t249 _ A9.out).mono ?_); rintro e w' ⟨rfl, ⟨nd, rfl⟩⟩; (try first | exact ⟨rfl, _, World.drewN_drewN _ _ _⟩ | exact ⟨rfl, _, Eq.trans (World.drewN_drewN _ _ _) (congrArg (World.drewN _) (Nat.add_assoc _ _ _))⟩))))
   go_ret
   exact ⟨by first | rfl | (simp [errW_none, errW_some] <;> rfl) | (simp only [← hji5]; first | rfl | (simp [errW_none, errW_some] <;> rfl)) | (simp [*, errW_none, errW_some] <;> rfl), zB_⟩
 obtain ⟨H, c4b0, c4b1⟩ := en_ c4 H
 by_cases c10 : a0 = 1
 · obtain ⟨H, c10b0, c10b1⟩ := ep_ c10 H
   clear c10
   replace H := gd_ H; obtain ⟨c11, H⟩ := H
   have c11b0 : decide (0 ≤ a1) = true := decide_eq_true c11
   clear c11
   replace H := gd_ H; obtain ⟨c12, H⟩ := H
   have c12b0 : decide (a1 < (a2.size : Int)) = true := decide_eq_true c12
   clear c12
   obtain rfl := Option.some.inj H
   have p13 : 0 ≤ (a1 : Int) := of_decide_eq_true zS_
   have q13 : a1 < (a2.size : Int) := of_decide_eq_true zS_
   have hx13 := bt_at a2 a1
   replace p13 := eq_true p13
   replace q13 := eq_true q13
   go_enter Tryz.func71, Tryz.ntmps71
   go_wp2
   repeat (go_quiet (fail); try go_wp2)
   go_ret
   exact ⟨zR_, zB_⟩
 obtain ⟨H, c10b0, c10b1⟩ := en_ c10 H
 by_cases c14 : a0 = 2
 · obtain ⟨H, c14b0, c14b1⟩ := ep_ c14 H
   clear c14
   replace H := bd_ H; obtain ⟨t250, A15, H⟩ := H
   replace H := bd_ H; obtain ⟨t251, A16, H⟩ := H
   obtain rfl := Option.some.inj H
   go_enter Tryz.func71, Tryz.ntmps71
   go_wp2_with (first | (go_at_call 95; (with_reducible refine (impl_isLucky.calls k a2 t250 _ A15.out).mono ?_); rintro e w' ⟨rfl, ⟨nd, rfl⟩⟩; (try first | exact ⟨rfl, _, World.drewN_drewN _ _ _⟩ | exact ⟨rfl, _, Eq.trans (World.drewN_drewN _ _ _) (congrArg (World.drewN _) (Nat.add_assoc _ _ _))⟩)) | (go_at_call 94; (with_reducible refine (impl_bit.calls t250 t251 _ A16.out).mono ?_); rintro e w' ⟨rfl, ⟨nd, rfl⟩⟩; (try first | exact ⟨rfl, _, World.drewN_drewN _ _ _⟩ | exact ⟨rfl, _, Eq.trans (World.drewN_drewN _ _ _) (congrArg (World.drewN _) (Nat.add_assoc _ _ _))⟩)))
   repeat (go_quiet (first | (go_at_call 94; (with_reducible refine (impl_bit.calls t250 t251 _ A16.out).mono ?_); rintro e w' ⟨rfl, ⟨nd, rfl⟩⟩; (try first | exact ⟨rfl, _, World.drewN_drewN _ _ _⟩ | exact ⟨rfl, _, Eq.trans (World.drewN_drewN _ _ _) (congrArg (World.drewN _) (Nat.add_assoc _ _ _))⟩))); try go_wp2_with (first | (go_at_call 95; (with_reducible refine (impl_isLucky.calls k a2 t250 _ A15.out).mono ?_); rintro e w' ⟨rfl, ⟨nd, rfl⟩⟩; (try first | exact ⟨rfl, _, World.drewN_drewN _ _ _⟩ | exact ⟨rfl, _, Eq.trans (World.drewN_drewN _ _ _) (congrArg (World.drewN _) (Nat.add_assoc _ _ _))⟩)) | (go_at_call 94; (with_reducible refine (impl_bit.calls t250 t251 _ A16.out).mono ?_); rintro e w' ⟨rfl, ⟨nd, rfl⟩⟩; (try first | exact ⟨rfl, _, World.drewN_drewN _ _ _⟩ | exact ⟨rfl, _, Eq.trans (World.drewN_drewN _ _ _) (congrArg (World.drewN _) (Nat.add_assoc _ _ _))⟩))))
   go_ret
   exact ⟨zR_, zB_⟩
 obtain ⟨H, c14b0, c14b1⟩ := en_ c14 H
 by_cases c17 : a0 = 3
 rotate_left
 · obtain ⟨H, c17b0, c17b1⟩ := en_ c17 H
   replace H := bd_ H; obtain ⟨t253, A26, H⟩ := H
   obtain rfl := Option.some.inj H
   go_enter Tryz.func71, Tryz.ntmps71
   go_wp2_with (first | (go_at_call 96; (with_reducible refine (impl_differs.calls k a2 t253 _ A26.out).mono ?_); rintro e w27 ⟨rfl, hb⟩; replace HB := Aside0.mk (below_step zB_ hb)))
   repeat (go_quiet (fail); try go_wp2_with (first | (go_at_call 96; (with_reducible refine (impl_differs.calls k a2 t253 _ A26.out).mono ?_); rintro e w27 ⟨rfl, hb⟩; replace HB := Aside0.mk (below_step zB_ hb))))
   go_ret
   exact ⟨zR_, zB_⟩
 obtain ⟨H, c17b0, c17b1⟩ := ep_ c17 H
 clear c17
 replace H := gd_ H; obtain ⟨c18, H⟩ := H
 have c18b0 : decide (0 ≤ a1) = true := decide_eq_true c18
 clear c18
 replace H := gd_ H; obtain ⟨c19, H⟩ := H
 have c19b0 : decide (a1 < (a2.size : Int)) = true := decide_eq_true c19
 clear c19
 obtain ⟨ji21, hji21⟩ : ∃ j_ : Int, (wrap64 (a1 + 1)) = j_ := ⟨_, rfl⟩
 replace H : (if 0 ≤ (ji21) then (if (ji21) < (a2.size : Int) then ((impl_bit.f (decide ((bt a2 a1) < (bt a2 (ji21))))).bind fun t252 => (some t252)) else (none)) else (none)) = some r := by first | (rw [hji21] at H; exact H) | (simp only [hji21] at H ⊢; exact H)
 have hji21w : (IntKind.i64.wrap (a1 + 1)) = ji21 := (i64_w _).trans hji21
 replace H := gd_ H; obtain ⟨c22, H⟩ := H
 have c22b0 : decide (0 ≤ (ji21)) = true := decide_eq_true c22
 clear c22
 replace H := gd_ H; obtain ⟨c23, H⟩ := H
 have c23b0 : decide ((ji21) < (a2.size : Int)) = true := decide_eq_true c23
 clear c23
 replace H := bd_ H; obtain ⟨t252, A25, H⟩ := H
 obtain rfl := Option.some.inj H
 have p20 : 0 ≤ (a1 : Int) := of_decide_eq_true zS_
 have q20 : a1 < (a2.size : Int) := of_decide_eq_true zS_
 have hx20 := bt_at a2 a1
 replace p20 := eq_true p20
 replace q20 := eq_true q20
 have p24 : 0 ≤ ((ji21) : Int) := of_decide_eq_true zS_
 have q24 : (ji21) < (a2.size : Int) := of_decide_eq_true zS_
 have hx24 := bt_at a2 (ji21)
 replace p24 := eq_true p24
 replace q24 := eq_true q24
 go_enter Tryz.func71, Tryz.ntmps71
 go_wp2_with (first | (go_at_call 94; (with_reducible refine (impl_bit.calls (decide ((bt a2 a1) < (bt a2 (ji21)))) t252 _ A25.out).mono ?_); rintro e w' ⟨rfl, ⟨nd, rfl⟩⟩; (try first | exact ⟨rfl, _, World.drewN_drewN _ _ _⟩ | exact ⟨rfl, _, Eq.trans (World.drewN_drewN _ _ _) (congrArg (World.drewN _) (Nat.add_assoc _ _ _))⟩)))
 repeat (go_quiet (first | (go_at_call 94; (with_reducible refine (impl_bit.calls (decide ((bt a2 a1) < (bt a2 (ji21)))) t252 _ A25.out).mono ?_); rintro e w' ⟨rfl, ⟨nd, rfl⟩⟩; (try first | exact ⟨rfl, _, World.drewN_drewN _ _ _⟩ | exact ⟨rfl, _, Eq.trans (World.drewN_drewN _ _ _) (congrArg (World.drewN _) (Nat.add_assoc _ _ _))⟩))); try go_wp2_with (first | (go_at_call 94; (with_reducible refine (impl_bit.calls (decide ((bt a2 a1) < (bt a2 (ji21)))) t252 _ A25.out).mono ?_); rintro e w' ⟨rfl, ⟨nd, rfl⟩⟩; (try first | exact ⟨rfl, _, World.drewN_drewN _ _ _⟩ | exact ⟨rfl, _, Eq.trans (World.drewN_drewN _ _ _) (congrArg (World.drewN _) (Nat.add_assoc _ _ _))⟩))))
 go_ret
 exact ⟨by first | rfl | (simp [errW_none, errW_some] <;> rfl) | (simp only [← hji21]; first | rfl | (simp [errW_none, errW_some] <;> rfl)) | (simp [*, errW_none, errW_some] <;> rfl), zB_⟩

/-! ### impl_Clue_fits: function 51 -/
def impl_Clue_fits.f (k : Nat) (a0_0 : Int) (a0_1 : Int) (a0_2 : Int) (a1 : ByteArray) : Option (Bool) := if a0_0 = 5 then ((impl_numberOf.f k a1).bind fun t255 => (if a0_2 = 0 then (none) else (some ((Int.tmod t255 a0_2) == 0)))) else ((impl_told.f k a0_0 a0_1 a1).bind fun t256 => (some (t256 == a0_2)))
theorem impl_Clue_fits.mono : ∀ a0 a1 a2 a3 k, LeO (impl_Clue_fits.f k a0 a1 a2 a3) (impl_Clue_fits.f (k + 1) a0 a1 a2 a3) := by
 intro a0 a1 a2 a3 k
 unfold impl_Clue_fits.f
 have m1_ := @impl_numberOf.mono
 have m2_ := @impl_told.mono
 exact zM_
def impl_Clue_fits.T3 : Bool × List (List Nat × List Nat) := (true, [([], []), ([0], [0]), ([], []), ([2], [2]), ([], []), ([1, 3, 4], [1, 3, 4]), ([], []), ([6], [6]), ([5, 7], [5, 7]), ([8, 5, 0, 1, 2, 3, 4, 5, 6, 7, 8], [8])])
def impl_Clue_fits.B3 : List Nat := [0, 1, 0, 4, 0, 31, 0, 64, 255, 511]
theorem impl_Clue_fits.tab3 : rtab .any (opsOf Tryz.f51 3) = impl_Clue_fits.T3 := by kernel_rfl
theorem impl_Clue_fits.bits3 : waitsOk impl_Clue_fits.T3.2 impl_Clue_fits.B3 = true := by kernel_rfl
theorem impl_Clue_fits.calls (k : Nat) (a0_0 : Int) (a0_1 : Int) (a0_2 : Int) (a1 : ByteArray) (r : Bool) (w : World) (h : impl_Clue_fits.f k a0_0 a0_1 a0_2 a1 = some r) :
 Calls Tryz.prog 51 #[.agg #[.int .i64 a0_0, .int .i64 a0_1, .int .i64 a0_2], .string a1] w fun e w' => e = .returned (.bool r) ∧ Below w.heap.size w w' := by
 have hu46 := Tryz.underlying46
 have HB := Aside0.mk (Below.refl w.heap.size w)
 unfold impl_Clue_fits.f at h
 have H := h
 clear h
 by_cases c3 : a0_0 = 5
 · obtain ⟨H, c3b0, c3b1⟩ := ep_ c3 H
   clear c3
   replace H := bd_ H; obtain ⟨t255, A4, H⟩ := H
   replace H := nz_ H; obtain ⟨c5, H⟩ := H
   have c5b0 : (a0_2 == 0) = false := beq_eq_false_iff_ne.mpr c5
   have c5b1 : (a0_2 != 0) = true := bne_iff_ne.mpr c5
   obtain rfl := Option.some.inj H
   go_enter Tryz.func51, Tryz.ntmps51
   try go_wp2_with (first | (refine bx_ 2 #[.int .i64 a0_0, .int .i64 a0_1, .int .i64 a0_2] 46 ?_; intro gb254 hg w6 hbox hb; have BK254 := Aside0.mk (hbox); have GW254 : Aside0 (w.heap.size ≤ gb254) := bs_ hg zB_; have GE254 := GW254; replace HB := Aside0.mk (below_step zB_ hb); clear hb hbox hg; have hcz7_0 : w6.cell? ⟨gb254, 0, none⟩ = some (.int .i64 a0_0) := (blk_cell BK254.out 0).trans rfl; have hcz7_1 : w6.cell? ⟨gb254, 1, none⟩ = some (.int .i64 a0_1) := (blk_cell BK254.out 1).trans rfl; have hcz7_2 : w6.cell? ⟨gb254, 2, none⟩ = some (.int .i64 a0_2) := (blk_cell BK254.out 2).trans rfl; have hfz7_0 := blk_frozen BK254.out 0; have hfz7_1 := blk_frozen BK254.out 1; have hfz7_2 := blk_frozen BK254.out 2))
   replace BK254 := Aside0.mk (blk_drew BK254.out)
   replace HB := Aside0.mk (below_drew1 HB.out)
   refine start_ (n := 7) (S := fun w' => w'.cell? ⟨gb254, 0, none⟩ = some (.int .i64 a0_0) ∧ w'.cell? ⟨gb254, 1, none⟩ = some (.int .i64 a0_1) ∧ w'.cell? ⟨gb254, 2, none⟩ = some (.int .i64 a0_2)) (ds := []) #[false, false, false, false, false, false, false] (by kernel_rfl) rfl rfl ⟨(blk_cell BK254.out 0).trans rfl, (blk_cell BK254.out 1).trans rfl, (blk_cell BK254.out 2).trans rfl⟩ (fun hHeld => ?_)
   generalize w6.drew = w8 at BK254 HB hHeld ⊢
   refine pq_ 0 8 ?_
   refine pq_ 2 10 ?_
   refine take_ (i := 3) (N := some 11) (v := ?_) (a' := ?_) #[true, false, true, true, false, false, false] rfl rfl (by kernel_rfl) (fun _ _ _ h => h) (Or.inl ⟨by rfl, ?_⟩) hHeld ?_ ?_
   rotate_left
   · rintro w' ⟨s0, s1, s2⟩
     go_simp
     with_reducible rfl
   rotate_left
   · simp only [Act.put, List.setIfInBounds_toArray, List.set_cons_zero, List.set_cons_succ, i64_w, i32_w]
     rfl
   refine one_ (i := 1) (N := some 9) #[true, true, true, true, false, false, false] rfl rfl (by kernel_rfl) (by decide) (fun K hK => ?_)
   refine goes_ Tryz.func70 (by kernel_rfl) rfl #[.string a1] (by rfl) rfl rfl z9_1_ ?_
   with_reducible refine (impl_numberOf.calls k a1 t255 _ A4.out).mono ?_
   rintro e w' ⟨rfl, ⟨nd, rfl⟩⟩
   refine ⟨_, rfl, ?_⟩
   refine hK.out _ _ ⟨(blk_cell BK254.out 0).trans rfl, (blk_cell BK254.out 1).trans rfl, (blk_cell BK254.out 2).trans rfl⟩ (fun hHeld => ?_)
   clear hK K
   refine norm_ (a' := ?_) ?_ ?_
   rotate_left
   · show Act.put _ (some 9) _ = _
     simp only [Act.put, List.setIfInBounds_toArray, List.set_cons_zero, List.set_cons_succ, i64_w, i32_w]
     rfl
   refine pq_ 4 12 ?_
   refine pq_ 5 13 ?_
   refine pq_ 6 4 ?_
   refine done_ (by kernel_rfl) ?_
   try go_wp2
   go_ret
   exact ⟨zR_, zs10_11⟩
 obtain ⟨H, c3b0, c3b1⟩ := en_ c3 H
 replace H := bd_ H; obtain ⟨t256, A9, H⟩ := H
 obtain rfl := Option.some.inj H
 go_enter Tryz.func51, Tryz.ntmps51
 try go_wp2_with (first | (refine bx_ 2 #[.int .i64 a0_0, .int .i64 a0_1, .int .i64 a0_2] 46 ?_; intro gb254 hg w10 hbox hb; have BK254 := Aside0.mk (hbox); have GW254 : Aside0 (w.heap.size ≤ gb254) := bs_ hg zB_; have GE254 := GW254; replace HB := Aside0.mk (below_step zB_ hb); clear hb hbox hg; have hcz11_0 : w10.cell? ⟨gb254, 0, none⟩ = some (.int .i64 a0_0) := (blk_cell BK254.out 0).trans rfl; have hcz11_1 : w10.cell? ⟨gb254, 1, none⟩ = some (.int .i64 a0_1) := (blk_cell BK254.out 1).trans rfl; have hcz11_2 : w10.cell? ⟨gb254, 2, none⟩ = some (.int .i64 a0_2) := (blk_cell BK254.out 2).trans rfl; have hfz11_0 := blk_frozen BK254.out 0; have hfz11_1 := blk_frozen BK254.out 1; have hfz11_2 := blk_frozen BK254.out 2))
 replace BK254 := Aside0.mk (blk_drew BK254.out)
 replace HB := Aside0.mk (below_drew1 HB.out)
 refine start_ (n := 10) (S := fun w' => w'.cell? ⟨gb254, 0, none⟩ = some (.int .i64 a0_0) ∧ w'.cell? ⟨gb254, 1, none⟩ = some (.int .i64 a0_1) ∧ w'.cell? ⟨gb254, 2, none⟩ = some (.int .i64 a0_2)) (ds := []) #[false, false, false, false, false, false, false, false, false, false] (by kernel_rfl) rfl rfl ⟨(blk_cell BK254.out 0).trans rfl, (blk_cell BK254.out 1).trans rfl, (blk_cell BK254.out 2).trans rfl⟩ (fun hHeld => ?_); refine with_tabW impl_Clue_fits.tab3 impl_Clue_fits.bits3 (fun HT_ HW_ => ?_)
 generalize w10.drew = w12 at BK254 HB hHeld ⊢
 refine pq_ 0 14 ?_
 refine pq_ 2 16 ?_
 refine pq_ 4 18 ?_
 refine pq_ 6 20 ?_
 refine take_ (i := 1) (N := some 15) (v := ?_) (a' := ?_) #[true, true, true, false, true, false, true, false, false, false] rfl rfl (take_ofW HT_.out HW_.out (by kernel_rfl)) (fun _ _ _ h => h) (Or.inl ⟨by rfl, ?_⟩) hHeld ?_ ?_
 rotate_left
 · rintro w' ⟨s0, s1, s2⟩
   go_simp
   with_reducible rfl
 rotate_left
 · simp only [Act.put, List.setIfInBounds_toArray, List.set_cons_zero, List.set_cons_succ, i64_w, i32_w]
   rfl
 refine take_ (i := 3) (N := some 17) (v := ?_) (a' := ?_) #[true, true, true, true, true, false, true, false, false, false] rfl rfl (take_ofW HT_.out HW_.out (by kernel_rfl)) (fun _ _ _ h => h) (Or.inl ⟨by rfl, ?_⟩) hHeld ?_ ?_
 rotate_left
 · rintro w' ⟨s0, s1, s2⟩
   go_simp
   with_reducible rfl
 rotate_left
 · simp only [Act.put, List.setIfInBounds_toArray, List.set_cons_zero, List.set_cons_succ, i64_w, i32_w]
   rfl
 refine take_ (i := 7) (N := some 21) (v := ?_) (a' := ?_) #[true, true, true, true, true, false, true, true, false, false] rfl rfl (take_ofW HT_.out HW_.out (by kernel_rfl)) (fun _ _ _ h => h) (Or.inl ⟨by rfl, ?_⟩) hHeld ?_ ?_
 rotate_left
 · rintro w' ⟨s0, s1, s2⟩
   go_simp
   with_reducible rfl
 rotate_left
 · simp only [Act.put, List.setIfInBounds_toArray, List.set_cons_zero, List.set_cons_succ, i64_w, i32_w]
   rfl
 refine one_ (i := 5) (N := some 19) #[true, true, true, true, true, true, true, true, false, false] rfl rfl (one_of HT_.out (by kernel_rfl)) (by decide) (fun K hK => ?_)
 refine goes_ Tryz.func71 (by kernel_rfl) rfl #[.int .i64 a0_0, .int .i64 a0_1, .string a1] (by rfl) rfl rfl z9_1_ ?_
 with_reducible refine (impl_told.calls k a0_0 a0_1 a1 t256 _ A9.out).mono ?_
 rintro e w13 ⟨rfl, hb⟩
 refine ⟨_, rfl, ?_⟩
 replace BK254 := bb_ BK254 (b_ BK254.out) hb
 replace HB := Aside0.mk (below_step (by repeat (first | (with_reducible first | exact HB.out | apply below_alloc | apply pw_below_drewN | apply below_drew1 | refine below_set ?_ GE254.out) | exact HB.out)) hb)
 
 
 
 
 refine hK.out _ _ ⟨(blk_cell BK254.out 0).trans rfl, (blk_cell BK254.out 1).trans rfl, (blk_cell BK254.out 2).trans rfl⟩ (fun hHeld => ?_)
 clear hK K
 refine norm_ (a' := ?_) ?_ ?_
 rotate_left
 · show Act.put _ (some 19) _ = _
   simp only [Act.put, List.setIfInBounds_toArray, List.set_cons_zero, List.set_cons_succ, i64_w, i32_w]
   rfl
 refine pq_ 8 22 ?_
 refine pq_ 9 4 ?_
 refine done_ (done_of HT_.out (by kernel_rfl)) ?_
 try go_wp2
 go_ret
 exact ⟨zR_, zs10_11⟩

/-! ### strconv_Itoa: function 60 -/
def strconv_Itoa.f (a0 : Int) : Option ByteArray := if 0 ≤ a0 then (if a0 < 100 then some ⟨(Lib.decDigits a0.toNat).toArray⟩ else none) else none
theorem strconv_Itoa.calls (a0 : Int) (r : ByteArray) (w : World) (h : strconv_Itoa.f a0 = some r) :
 Calls Tryz.prog 60 #[.int .i64 a0] w fun e w' => e = .returned (.string r) ∧ Drawn0 w w' := by
 unfold strconv_Itoa.f at h
 by_cases h0 : 0 ≤ a0
 rotate_left
 · exact none_ (if_neg h0) h
 rw [if_pos h0] at h
 by_cases h1 : a0 < 100
 rotate_left
 · exact none_ (if_neg h1) h
 rw [if_pos h1] at h
 obtain rfl := Option.some.inj h
 obtain ⟨i, rfl⟩ : ∃ i : Nat, a0 = (i : Int) := ⟨a0.toNat, by omega⟩
 refine (Shelf.Itoa_small i (by omega) w).mono ?_
 rintro e w' ⟨rfl, rfl⟩
 exact ⟨by rw [Int.toNat_natCast], Drawn0.refl _⟩

/-! ### impl_solutions: function 38 -/
-- behind 26 60
def impl_solutions.digit (d : Int) : ByteArray := ⟨#[UInt8.ofNat (48 + d.toNat)]⟩
def impl_solutions.tick : Nat → Int → ByteArray → ByteArray
 | 0, _, t => t
 | i + 1, n, t => impl_solutions.tick i (n / 6) (impl_solutions.digit (n % 6) ++ t)
def impl_solutions.bad (k : Nat) (t : ByteArray) (x : S46) : Option Bool := (impl_Clue_fits.f k x.f0 x.f1 x.f2 t).map (!·)
def impl_solutions.go (k : Nat) (l : List S46) : Nat → Int → List ByteArray → Option (List ByteArray)
 | 0, _, out => some out
 | c + 1, n, out => (Fn.anyO (impl_solutions.bad k (impl_solutions.tick 4 n ByteArray.empty)) l).bind fun b => impl_solutions.go k l c (n + 1) (if b then out else out ++ [impl_solutions.tick 4 n ByteArray.empty])
def impl_solutions.f (k : Nat) (l0 : List S46) : Option (List ByteArray) := impl_solutions.go k l0 1296 0 []
theorem impl_solutions.go_mono (k : Nat) (l : List S46) : ∀ c n out, LeO (impl_solutions.go k l c n out) (impl_solutions.go (k + 1) l c n out)
 | 0, _, _ => LeO.refl _
 | c + 1, n, out => by
  unfold impl_solutions.go
  refine LeO.bind (fun r hr => Fn.anyO_le (fun x r hr => ?_) l r hr) (fun b => impl_solutions.go_mono k l c _ _)
  unfold impl_solutions.bad at hr ⊢
  obtain ⟨t, ht, h⟩ := Option.map_eq_some_iff.mp hr
  exact Option.map_eq_some_iff.mpr ⟨t, impl_Clue_fits.mono _ _ _ _ _ t ht, h⟩
theorem impl_solutions.mono : ∀ a0 k, LeO (impl_solutions.f k a0) (impl_solutions.f (k + 1) a0) := fun a0 k => impl_solutions.go_mono k a0 _ _ _
theorem impl_solutions_1.calls (k : Nat) (x : S46) (tk : ByteArray) (g : Nat) (r : Bool) (w : World) (hc : w.cell? ⟨g, 0, none⟩ = some (.string tk)) (h : impl_solutions.bad k tk x = some r) :
 Calls Tryz.prog 61 #[.agg #[.int .i64 x.f0, .int .i64 x.f1, .int .i64 x.f2], .pointer (some ⟨g, 0, none⟩)] w fun e w' => e = .returned (.bool r) ∧ Below w.heap.size w w' := by
 have hu26 := Tryz.underlying46
 have HB := Aside0.mk (Below.refl w.heap.size w)
 have HC := Aside0.mk hc
 obtain ⟨t, ht, h⟩ := Option.map_eq_some_iff.mp h
 subst h
 have HT := Aside0.mk ht
 clear hc ht
 go_enter Tryz.func61, Tryz.ntmps61
 go_wp2_with (first | (refine bx_ 2 #[.int .i64 x.f0, .int .i64 x.f1, .int .i64 x.f2] 46 ?_; intro gb160 hg w3 hbox hb; have HB1 := Aside0.mk (below_step HB.out hb); have hcc : w3.cell? ⟨g, 0, none⟩ = some (.string tk) := (hb.cell (World.block_lt_of_cell? w _ HC.out)).trans HC.out; clear hb hg; have hcz4_0 : w3.cell? ⟨gb160, 0, none⟩ = some (.int .i64 x.f0) := (blk_cell hbox 0).trans rfl; have hcz4_1 : w3.cell? ⟨gb160, 1, none⟩ = some (.int .i64 x.f1) := (blk_cell hbox 1).trans rfl; have hcz4_2 : w3.cell? ⟨gb160, 2, none⟩ = some (.int .i64 x.f2) := (blk_cell hbox 2).trans rfl; clear hbox) | (go_at_call 51; (with_reducible refine (impl_Clue_fits.calls k x.f0 x.f1 x.f2 tk t _ HT.out).mono ?_); rintro e w5 ⟨rfl, hb⟩; have HB2 := Aside0.mk (below_step HB1.out hb); clear hb))
 go_ret
 exact ⟨rfl, HB2.out⟩
def impl_solutions.T8 : Bool × List (List Nat × List Nat) := (true, [([], []), ([], []), ([0, 1], [0, 1]), ([2], [2]), ([], []), ([3, 4], [3, 4]), ([5, 3, 0, 1, 2, 3, 4, 5], [5])])
def impl_solutions.B8 : List Nat := [0, 0, 3, 7, 0, 31, 63]
theorem impl_solutions.tab8 : rtab .any (opsOf Tryz.f38 8) = impl_solutions.T8 := by kernel_rfl
theorem impl_solutions.bits8 : waitsOk impl_solutions.T8.2 impl_solutions.B8 = true := by kernel_rfl
theorem impl_solutions.succ_ (n : Nat) (h : n < 4611686018427387904) : Value.int .i64 (wrap64 ((n : Int) + 1)) = Value.int .i64 ((n + 1 : Nat) : Int) := by
 have : wrap64 ((n : Int) + 1) = ((n + 1 : Nat) : Int) := by simp [wrap64]; omega
 rw [this]
theorem impl_solutions.digit_size (d : Int) : (impl_solutions.digit d).size = 1 := rfl
theorem impl_solutions.digit_ok (n : Int) (h0 : 0 ≤ n % 6) (h1 : n % 6 < 6) : strconv_Itoa.f (n % 6) = some (impl_solutions.digit (n % 6)) := by
 unfold strconv_Itoa.f impl_solutions.digit
 rw [if_pos h0, if_pos (by omega), Lib.decDigits_one (by omega)]
theorem impl_solutions.calls (k : Nat) (A0 : Option Addr) (c0 : Nat) (l0 : List (S46)) (r : List ByteArray) (w : World) (hr0 : Kd.C k46 w A0 l0.length l0) (hc0 : l0.length ≤ c0) (h : impl_solutions.f k l0 = some r) :
 Calls Tryz.prog 38 #[.slice A0 l0.length c0] w fun e w' => ∃ v0_ : Value, e = .returned (v0_) ∧ Kd.R Kd.string 9 w' w.heap.size (fun _ => True) v0_ r ∧ Below w.heap.size w w' := by
 have HR0 := Aside0.mk hr0
 have HC0 := Aside0.mk hc0
 have HB := Aside0.mk (Below.refl w.heap.size w)
 have H := Aside0.mk h
 clear hr0 hc0 h
 go_enter Tryz.func38, Tryz.ntmps38
 go_wp2_with (first | ((with_reducible refine gate_dst (N := 7) rfl ?_); refine Kd.R_lit Kd.string _ 9 ?hg (N := 7) ?hd (xs := ([] : List ByteArray)) (inner := []) (ok := fun _ => True) (okp := fun _ => True) ?hr ?hp (fun _ hk => hk) trivial (Below.refl _ _) (Nat.le_refl _) (by simp) ?_; (case hd => rfl); (case hg => rfl); (case hr => first | (go_simp; done) | (go_simp; rfl)); (case hp => exact (Reps.none _ _)); intro v123 w3 ho4 hb hg_ hnew_; clear hg_ hnew_; have HO := Aside0.mk ho4; have HB1 := Aside0.mk (below_step HB.out hb); clear ho4 hb HB))
 go_loopg [3, 15] 1297 (fun kq v3 v15 w' => ∃ (n : Nat) (out : List ByteArray), v15 = .int .i64 (n : Int) ∧ Aside0 (n + kq = 1297) ∧ Aside0 (out.length ≤ n) ∧ Aside0 (impl_solutions.go k l0 (1296 - n) (n : Int) out = some r) ∧ Aside0 (Kd.R Kd.string 9 w' w.heap.size (fun _ => True) v3 out) ∧ Aside0 (Below w.heap.size w w'))
 case atStart => exact ⟨0, [], rfl, ⟨by omega⟩, ⟨Nat.le_refl _⟩, H, HO, HB1⟩
 case round =>
  clear H HO HB1
  obtain ⟨n, out, rfl, HN, HL, HA, HO, HB⟩ := hrel
  by_cases c : n < 1296
  · have c1 : decide ((n : Int) < 1296) = true := decide_eq_true (by omega)
    have c2 : decide (n < 1296) = true := decide_eq_true c
    obtain ⟨b, hb0, hA⟩ : ∃ b, Fn.anyO (impl_solutions.bad k (impl_solutions.tick 4 (n : Int) ByteArray.empty)) l0 = some b ∧ impl_solutions.go k l0 (1296 - (n + 1)) ((n : Int) + 1) (if b then out else out ++ [impl_solutions.tick 4 (n : Int) ByteArray.empty]) = some r := by
     have h := HA.out
     rw [show 1296 - n = (1296 - (n + 1)) + 1 by omega] at h
     unfold impl_solutions.go at h
     exact Option.bind_eq_some_iff.mp h
    obtain ⟨T, hT⟩ : ∃ T, T = impl_solutions.tick 4 (n : Int) ByteArray.empty := ⟨_, rfl⟩
    rw [← hT] at hb0 hA
    have HT := Aside0.mk hT.symm
    have HQ := Aside0.mk hb0
    have HA2 := Aside0.mk hA
    have HC := Aside0.mk c
    clear HA hT hb0 hA c
    go_wp2
    have HO2 : Aside0 (Kd.R Kd.string 9 (wr.alloc (.cells #[.string ⟨#[]⟩] 9)) w.heap.size (fun k => k ≠ wr.heap.size) u3 out) := ⟨Kd.R_alloc (Kd.R_mono (Kd.R_elderB HO.out wr.heap.size (Nat.le_refl _)) (fun _ hk => hk.2)) _⟩
    have BK : Aside0 ((wr.alloc (.cells #[.string ⟨#[]⟩] 9)).heap[wr.heap.size]? = some (.cells #[.string ⟨#[]⟩] 9 (0, 0))) := ⟨by simp [World.alloc, -World.alloc_eq]⟩
    have HB2 : Aside0 (Below w.heap.size w (wr.alloc (.cells #[.string ⟨#[]⟩] 9))) := ⟨below_alloc HB.out _⟩
    have HG := Aside0.mk HB.out.size
    clear HO HB
    generalize (wr.alloc (.cells #[.string ⟨#[]⟩] 9)) = wa at HO2 BK HB2 ⊢
    generalize wr.heap.size = g at HO2 BK HG ⊢
    obtain ⟨nq, hnq⟩ : ∃ q, q = gk := ⟨_, rfl⟩
    subst hnq
    go_loopg [5, 18] 5 (fun kq v5 v18 w' => ∃ (i : Nat) (m : Int) (tk : ByteArray), v5 = .int .i64 m ∧ v18 = .int .i64 (i : Int) ∧ Aside0 (i + kq = 5) ∧ Aside0 (0 ≤ m ∧ m ≤ 1296) ∧ Aside0 (tk.size = i) ∧ Aside0 (impl_solutions.tick (4 - i) m tk = T) ∧ Aside0 (w'.heap[g]? = some (.cells #[.string tk] 9 (0, 0))) ∧ Aside0 (Kd.R Kd.string 9 w' w.heap.size (fun k => k ≠ g) u3 out) ∧ Aside0 (Below w.heap.size w w'))
    case atStart => exact ⟨0, (n : Int), ⟨#[]⟩, rfl, rfl, ⟨by omega⟩, ⟨by have := HC.out; omega⟩, ⟨rfl⟩, HT, BK, HO2, HB2⟩
    case round =>
     clear HT BK HO2 HB2
     obtain ⟨i, m, tk, rfl, rfl, HI, HM, HS, HT, BK, HO, HB⟩ := hrel
     by_cases d : i < 4
     · have d1 : decide ((i : Int) < 4) = true := decide_eq_true (by omega)
       have d2 : decide (i < 4) = true := decide_eq_true d
       have hM := HM.out
       have hrem : Int.tmod m 6 = m % 6 := Int.tmod_eq_emod_of_nonneg hM.1
       have hquo : Int.tdiv m 6 = m / 6 := Int.tdiv_eq_ediv_of_nonneg hM.1
       obtain ⟨q, hq⟩ : ∃ q : Int, m / 6 = q := ⟨_, rfl⟩
       obtain ⟨e, he⟩ : ∃ e : Int, m % 6 = e := ⟨_, rfl⟩
       have hw : wrap64 q = q := by simp [wrap64]; omega
       have HE := Aside0.mk (show strconv_Itoa.f e = some (impl_solutions.digit e) by rw [← he]; exact impl_solutions.digit_ok m (by omega) (by omega))
       have hT : impl_solutions.tick (4 - (i + 1)) q (impl_solutions.digit e ++ tk) = T := by
        have h := HT.out
        rw [show 4 - i = (4 - (i + 1)) + 1 by omega] at h
        unfold impl_solutions.tick at h
        rw [hq, he] at h
        exact h
       have HT2 := Aside0.mk hT
       have HQ0 := Aside0.mk (show 0 ≤ q ∧ q ≤ 1296 by omega)
       rw [hq] at hquo
       rw [he] at hrem
       obtain ⟨dg, hdg⟩ : ∃ dg, impl_solutions.digit e = dg := ⟨_, rfl⟩
       have hds : dg.size = 1 := by rw [← hdg]; rfl
       rw [hdg] at HE HT2
       have hsz : dg.size + tk.size ≤ 9223372036854775807 := by rw [hds, HS.out]; omega
       have z0 := eq_true hsz
       have z1 : decide (dg.size + tk.size ≤ 9223372036854775807) = true := decide_eq_true hsz
       have z2 : (9223372036854775807 < dg.size + tk.size) = False := eq_false (Nat.not_lt.2 hsz)
       have HDS := Aside0.mk (show (dg ++ tk).size = i + 1 by rw [ByteArray.size_append, hds, HS.out]; omega)
       have hcell := blk_cell BK.out 0
       have hfz := blk_frozen BK.out 0
       have HD := Aside0.mk d
       clear hM HT hT hq he hdg hds hsz HM HS d
       go_wp2
       have n0_ := Aside0.mk (Kd.R_drew HO.out)
       have n1_ := Aside0.mk (blk_drew BK.out)
       have n2_ := Aside0.mk (below_drew1 HB.out)
       clear HO BK HB
       have HO := n0_
       have BK := n1_
       have HB := n2_
       clear n0_ n1_ n2_ hcell hfz
       have hcell := blk_cell BK.out 0
       refine start_ (n := 7) (S := fun w' => w'.cell? ⟨g, 0, none⟩ = some (.string tk)) (ds := [6]) #[false, false, false, false, false, false, false] (by kernel_rfl) rfl rfl hcell (fun hHeld => ?_); refine with_tabW impl_solutions.tab8 impl_solutions.bits8 (fun HT_ HW_ => ?_)
       generalize wr.drew = w8 at HO BK HB hcell hHeld ⊢
       refine pq_ 0 20 ?_
       refine pq_ 1 21 ?_
       refine pq_ 2 22 ?_
       refine take_ (i := 4) (N := some 24) (v := ?_) (a' := ?_) #[true, true, true, false, true, false, false] rfl rfl (take_ofW HT_.out HW_.out (by kernel_rfl)) (fun _ _ _ h => h) (Or.inl ⟨by rfl, ?_⟩) hHeld ?_ ?_
       rotate_left
       · rintro w' s0
         go_simp
         with_reducible rfl
       rotate_left
       · simp only [Act.put, List.setIfInBounds_toArray, List.set_cons_zero, List.set_cons_succ, i64_w, i32_w]
         rfl
       refine one_ (i := 3) (N := some 23) #[true, true, true, true, true, false, false] rfl rfl (one_of HT_.out (by kernel_rfl)) (by decide) (fun K hK => ?_)
       refine goes_ Tryz.func60 (by kernel_rfl) rfl #[.int .i64 e] (by rfl) rfl rfl (by (try simp only [List.map_toArray, List.map_cons, List.map_nil]); first | done | rfl) ?_
       with_reducible refine (strconv_Itoa.calls e dg _ HE.out).mono ?_
       rintro e' w' ⟨rfl, ⟨nd, rfl⟩⟩
       refine ⟨_, rfl, ?_⟩
       have n0_ := Aside0.mk (Kd.R_drewN HO.out nd)
       have n1_ := Aside0.mk (blk_drewN BK.out nd)
       have n2_ := Aside0.mk (pw_below_drewN HB.out nd)
       clear HO BK HB
       have HO := n0_
       have BK := n1_
       have HB := n2_
       clear n0_ n1_ n2_
       refine hK.out _ _ hHeld (fun hHeld => ?_)
       clear hK K
       refine norm_ (a' := ?_) ?_ ?_
       rotate_left
       · show Act.put _ (some 23) _ = _
         simp only [Act.put, List.setIfInBounds_toArray, List.set_cons_zero, List.set_cons_succ, i64_w, i32_w]
         rfl
       refine pq_ 5 25 ?_
       have hcell2 := blk_cell BK.out 0
       have hfz2 := blk_frozen BK.out 0
       refine last_ (i := 6) (N := none) #[true, true, true, true, true, true, true] rfl rfl (one_of HT_.out (by kernel_rfl)) (by decide) (fun K hK => ?_)
       refine skip_ (w1 := ?_) (by rfl) rfl ?_ ?_
       rotate_left
       · go_simp
         rfl
       refine hK.out _ _ ?_
       clear hK K
       refine done_ (done_of HT_.out (by kernel_rfl)) ?_
       try go_wp2
       go_roundg (gk - 1)
       case measure => have := HI.out; have := HD.out; omega
       case rel =>
        exact ⟨i + 1, q, dg ++ tk, by first | rfl | (simp [*]; done), impl_solutions.succ_ i (by have := HD.out; omega), ⟨by have := HI.out; have := HD.out; omega⟩, HQ0, HDS, HT2, ⟨blk_put BK.out 0 _ rfl⟩, ⟨Kd.R_far HO.out (fun k hk => hk) _⟩, ⟨below_set HB.out HG.out⟩⟩
     have d1 : decide ((i : Int) < 4) = false := decide_eq_false (by omega)
     have d2 : decide (i < 4) = false := decide_eq_false d
     have hi : tk = T := by
      have h := HT.out
      rw [show 4 - i = 0 by have := HI.out; omega] at h
      exact h
     subst hi
     have hcell := blk_cell BK.out 0
     have HCL := Aside0.mk hcell
     have HP : Aside0 (∀ (x : S46) (t : Bool) (W : World), impl_solutions.bad k tk x = some t → Below wr.heap.size wr W → Calls Tryz.prog 61 (#[.agg #[.int .i64 x.f0, .int .i64 x.f1, .int .i64 x.f2]] ++ #[.pointer (some ⟨g, 0, none⟩)]) W fun e W' => e = .returned (.bool t) ∧ Below W.heap.size W W') := ⟨fun x t W hx hb => impl_solutions_1.calls k x tk g t W ((hb.cell (World.block_lt_of_cell? wr _ HCL.out)).trans HCL.out) hx⟩
     have HRL := Aside0.mk (Kd.C_below HR0.out HB.out)
     cases b with
     | true =>
      go_wp2_with (first | (go_at_call 46; (with_reducible refine (slices_ContainsFunc_clue (impl_solutions.bad k tk) 61 _ #[.pointer (some ⟨g, 0, none⟩)] A0 c0 l0 true _ HRL.out HC0.out Tryz.func61 (by kernel_rfl) rfl HP.out HQ.out).mono ?_); rintro e w1 ⟨rfl, hb⟩; have HB2 := Aside0.mk (below_step HB.out hb); have HO2 := Aside0.mk (Kd.R_mono (Kd.R_below HO.out hb) (ok' := fun _ => True) (fun _ _ => trivial)); clear hb))
      go_roundg (nq - 1)
      case measure => have := HN.out; have := HC.out; omega
      case rel => exact ⟨n + 1, out, impl_solutions.succ_ n (by have := HC.out; omega), ⟨by have := HN.out; have := HC.out; omega⟩, ⟨by have := HL.out; omega⟩, HA2, HO2, HB2⟩
     | false =>
      go_wp2_with (first | (go_at_call 46; (with_reducible refine (slices_ContainsFunc_clue (impl_solutions.bad k tk) 61 _ #[.pointer (some ⟨g, 0, none⟩)] A0 c0 l0 false _ HRL.out HC0.out Tryz.func61 (by kernel_rfl) rfl HP.out HQ.out).mono ?_); rintro e w1 ⟨rfl, hb⟩; have HB2 := Aside0.mk (below_step HB.out hb); have hcell2 := (hb.cell (World.block_lt_of_cell? wr _ HCL.out)).trans HCL.out; have HO2 := Aside0.mk (Kd.R_mono (Kd.R_below HO.out hb) (ok' := fun _ => True) (fun _ _ => trivial)); clear hb) | ((with_reducible refine gate_builtin (b := .append) (xs := #[.tmp 34, .tmp 36]) rfl ?_); at_builtin; refine Kd.R_append Kd.string (w0 := w) w.heap.size rfl (.tmp 34) (.tmp 36) 28 9 (.string ByteArray.empty) 16 rfl Tryz.underlying28 info9 rfl (by decide) (by omega) u3 out tk [.string tk] (fun _ => True) (fun _ => False) rfl rfl ?aP (fun _ hk => hk.elim) ?aF ?aO ?aB ?aS ?aL ?_; (case aP => exact rfl); (case aF => exact fun _ _ => trivial); (case aO => exact HO2.out); (case aB => exact HB2.out); (case aS => exact HB2.out.size); (case aL => have := HL.out; have := HC.out; omega); intro v1 w4 ho hb hg hat; have HO3 := Aside0.mk ho; have HB3 := Aside0.mk hb; clear ho hb hg hat HB2 HO2))
      go_roundg (nq - 1)
      case measure => have := HN.out; have := HC.out; omega
      case rel => exact ⟨n + 1, out ++ [tk], impl_solutions.succ_ n (by have := HC.out; omega), ⟨by have := HN.out; have := HC.out; omega⟩, ⟨by have := HL.out; simp; omega⟩, HA2, HO3, HB3⟩
  have c1 : decide ((n : Int) < 1296) = false := decide_eq_false (by omega)
  have c2 : decide (n < 1296) = false := decide_eq_false c
  have hr : out = r := by
   have h := HA.out
   rw [show 1296 - n = 0 by omega] at h
   exact Option.some.inj h
  subst hr
  go_wp2
  go_ret
  exact ⟨_, rfl, HO.out, HB.out⟩

/-! ### impl_Solutions: function 6 -/
def impl_Solutions.f (k : Nat) (l0_0 : List (S46)) : Option (List ByteArray × Bool) := (impl_IsPuzzle.f k l0_0).bind fun t258 => (if t258 = true then ((impl_solutions.f k l0_0).bind fun t259 => (some (t259, true))) else (some (([] : List ByteArray), false)))
theorem impl_Solutions.mono : ∀ a0 k, LeO (impl_Solutions.f k a0) (impl_Solutions.f (k + 1) a0) := by
 intro a0 k
 unfold impl_Solutions.f
 have m1_ := @impl_IsPuzzle.mono
 have m2_ := @impl_solutions.mono
 exact zM_
theorem impl_Solutions.calls (k : Nat) (A0_0 : Option Addr) (c0_0 : Nat) (l0_0 : List (S46)) (r1 : List ByteArray) (r2 : Bool) (w : World) (hr0_0 : Kd.C k46 w A0_0 l0_0.length l0_0) (hc0_0 : l0_0.length ≤ c0_0) (h : impl_Solutions.f k l0_0 = some (r1, r2)) :
 Calls Tryz.prog 6 #[.agg #[.slice A0_0 l0_0.length c0_0]] w fun e w' => ∃ v0_ : Value, e = .returned (.tuple #[v0_, .bool r2]) ∧ Kd.R Kd.string 9 w' w.heap.size (fun _ => True) v0_ r1 ∧ Below w.heap.size w w' := by
 have hu26 := Tryz.underlying26
 have HR0_0 := Aside0.mk hr0_0
 have HC0_0 := Aside0.mk hc0_0
 clear hr0_0 hc0_0
 have HB := Aside0.mk (Below.refl w.heap.size w)
 unfold impl_Solutions.f at h
 have H := h
 clear h
 replace H := bd_ H; obtain ⟨t258, A2, H⟩ := H
 by_cases c3 : t258 = true
 · subst c3
   rw [if_pos rfl] at H
   replace H := bd_ H; obtain ⟨t259, A4, H⟩ := H
   simp only [Option.some.injEq, Prod.mk.injEq] at H
   obtain ⟨rfl, rfl⟩ := H
   go_enter Tryz.func6, Tryz.ntmps6
   go_wp2_with (first | (refine bx_ 1 #[.slice A0_0 l0_0.length c0_0] 26 ?_; intro gb257 hg w5 hbox hb; have BK257 := Aside0.mk (hbox); have GW257 : Aside0 (w.heap.size ≤ gb257) := bs_ hg zB_; have GE257 := GW257; replace HB := Aside0.mk (below_step zB_ hb); clear hb hbox hg; have hcz6_0 : w5.cell? ⟨gb257, 0, none⟩ = some (.slice A0_0 l0_0.length c0_0) := (blk_cell BK257.out 0).trans rfl; have hfz6_0 := blk_frozen BK257.out 0) | ((with_reducible refine gc_ 26 rfl ?_); refine gL_ 5 Tryz.func26 #[.agg #[.slice A0_0 l0_0.length c0_0]] ?_; (with_reducible refine (impl_IsPuzzle.calls k _ _ l0_0 true _ ?side1 ?side2 A2.out).mono ?_); (case side1 => exact zc10_0_); (case side2 => exact HC0_0.out); rintro e w7 ⟨rfl, hb⟩; refine ⟨_, rfl, ?_⟩; replace BK257 := bb_ BK257 z9_3_ hb; replace HB := Aside0.mk (below_step z9_2_ hb); have hcz8_0 : w7.cell? ⟨gb257, 0, none⟩ = some (.slice A0_0 l0_0.length c0_0) := (blk_cell BK257.out 0).trans rfl; have hfz8_0 := blk_frozen BK257.out 0) | ((with_reducible refine gc_ 38 rfl ?_); refine gL_ 9 Tryz.func38 #[.slice A0_0 l0_0.length c0_0] ?_; (with_reducible refine (impl_solutions.calls k _ _ l0_0 t259 _ ?side1 ?side2 A4.out).mono ?_); (case side1 => exact zc10_0_); (case side2 => exact HC0_0.out); rintro e w9 ⟨v260, rfl, ho0, hb⟩; refine ⟨_, rfl, ?_⟩; have HO261 := Aside0.mk (Kd.R_lower ho0 (below_size z9_2_)); replace BK257 := bb_ BK257 z9_3_ hb; replace HB := Aside0.mk (below_step z9_2_ hb)))
   go_ret2
   exact ⟨_, zs10_9, by exact rr_ HO261.out, zs10_12⟩
 replace H := bf_ c3 H; obtain ⟨rfl, H⟩ := H
 simp only [Option.some.injEq, Prod.mk.injEq] at H
 obtain ⟨rfl, rfl⟩ := H
 go_enter Tryz.func6, Tryz.ntmps6
 go_wp2_with (first | (refine bx_ 1 #[.slice A0_0 l0_0.length c0_0] 26 ?_; intro gb257 hg w10 hbox hb; have BK257 := Aside0.mk (hbox); have GW257 : Aside0 (w.heap.size ≤ gb257) := bs_ hg zB_; have GE257 := GW257; replace HB := Aside0.mk (below_step zB_ hb); clear hb hbox hg; have hcz11_0 : w10.cell? ⟨gb257, 0, none⟩ = some (.slice A0_0 l0_0.length c0_0) := (blk_cell BK257.out 0).trans rfl; have hfz11_0 := blk_frozen BK257.out 0) | ((with_reducible refine gc_ 26 rfl ?_); refine gL_ 5 Tryz.func26 #[.agg #[.slice A0_0 l0_0.length c0_0]] ?_; (with_reducible refine (impl_IsPuzzle.calls k _ _ l0_0 false _ ?side1 ?side2 A2.out).mono ?_); (case side1 => exact zc10_0_); (case side2 => exact HC0_0.out); rintro e w12 ⟨rfl, hb⟩; refine ⟨_, rfl, ?_⟩; replace BK257 := bb_ BK257 z9_3_ hb; replace HB := Aside0.mk (below_step z9_2_ hb)))
 go_ret2
 exact ⟨_, zs10_9, zs10_13, zs10_12⟩

theorem z10_1_ {p : Prop} (h : p := by (try simp only [List.map_toArray, List.map_cons, List.map_nil]); first | done | rfl | (simp only [List.length_drop, List.length_take]; rfl)) : p := h
theorem z10_2_ {p : Prop} (h : p := by refine b_ ?_; refine blk_put (cs := #[.int .i64 ((rd_T46 l0_0 x12_1).f0), .int .i64 ((rd_T46 l0_0 x12_1).f1), .int .i64 0]) ?_ 2 _ rfl; refine b_ ?_; refine blk_put (cs := #[.int .i64 ((rd_T46 l0_0 x12_1).f0), .int .i64 0, .int .i64 0]) ?_ 1 _ rfl; refine b_ ?_; refine blk_put (cs := #[.int .i64 0, .int .i64 0, .int .i64 0]) ?_ 0 _ rfl; exact b_ BK270.out) : p := h
theorem z10_3_ {p : Prop} (h : p := by refine b_ ?_; refine blk_far ?_ NB268_270.out _; refine b_ ?_; refine blk_far ?_ NB268_270.out _; refine b_ ?_; refine blk_far ?_ NB268_270.out _; exact b_ BK268.out) : p := h
theorem z10_4_ {p : Prop} (h : p := by repeat (first | (with_reducible first | exact HB.out | apply below_alloc | apply pw_below_drewN | apply below_drew1 | refine below_set ?_ GE268.out) | exact HB.out)) : p := h
theorem z10_5_ {p : Prop} (h : p := by exact b_ BK268.out) : p := h
theorem z10_6_ {p : Prop} (h : p := by repeat (first | (with_reducible first | exact HB.out | apply below_alloc | apply pw_below_drewN | apply below_drew1 | refine below_set ?_ GE275.out) | exact HB.out)) : p := h
theorem z10_7_ {p : Prop} (h : p := by repeat (first | (with_reducible first | exact HB.out | apply below_alloc | apply pw_below_drewN | apply below_drew1 | refine below_set ?_ GE285.out) | exact HB.out)) : p := h
theorem z10_8_ {p : Prop} (h : p := by repeat (first | (with_reducible first | exact HB.out | apply below_alloc | apply pw_below_drewN | apply below_drew1 | refine below_set ?_ GE290.out) | exact HB.out)) : p := h
theorem z10_10_ {p : Prop} (h : p := by exact b_ BK275.out) : p := h
theorem z10_11_ {p : Prop} (h : p := by exact b_ BK285.out) : p := h

/-! ### spec_pzClue: function 62 -/
def spec_pzClue.f (a0_0 : Int) (a0_1 : Int) (a0_2 : Int) : Option (Bool) := (spec_l1In.f a0_2 0 20).bind fun t263 => (if t263 = true then (if a0_0 = 0 then ((spec_l1In.f a0_1 0 1).bind fun t264 => (some t264)) else (if a0_0 = 1 then ((spec_l1In.f a0_1 0 3).bind fun t265 => (some t265)) else (if a0_0 = 2 then (if a0_1 = 0 then (some (decide (a0_2 < 2))) else (some false)) else (if a0_0 = 3 then ((spec_l1In.f a0_1 0 2).bind fun t266 => (if t266 = true then (some (decide (a0_2 < 2))) else (some false))) else (if a0_0 = 4 then (some (a0_1 == 0)) else (if a0_0 = 5 then (if a0_1 = 0 then ((spec_l1In.f a0_2 2 9).bind fun t267 => (some t267)) else (some false)) else (some false))))))) else (some false))
theorem spec_pzClue.calls (a0_0 : Int) (a0_1 : Int) (a0_2 : Int) (r : Bool) (w : World) (h : spec_pzClue.f a0_0 a0_1 a0_2 = some r) :
 Calls Tryz.prog 62 #[.agg #[.int .i64 a0_0, .int .i64 a0_1, .int .i64 a0_2]] w fun e w' => e = .returned (.bool r) ∧ Below w.heap.size w w' := by
 have hu46 := Tryz.underlying46
 have HB := Aside0.mk (Below.refl w.heap.size w)
 unfold spec_pzClue.f at h
 have H := h
 clear h
 replace H := bd_ H; obtain ⟨t263, A2, H⟩ := H
 by_cases c3 : t263 = true
 rotate_left
 · replace H := bf_ c3 H; obtain ⟨rfl, H⟩ := H
   obtain rfl := Option.some.inj H
   go_enter Tryz.func62, Tryz.ntmps62
   go_wp2_with (first | (refine bx_ 1 #[.int .i64 a0_0, .int .i64 a0_1, .int .i64 a0_2] 46 ?_; intro gb262 hg w37 hbox hb; have BK262 := Aside0.mk (hbox); have GW262 : Aside0 (w.heap.size ≤ gb262) := bs_ hg zB_; have GE262 := GW262; replace HB := Aside0.mk (below_step zB_ hb); clear hb hbox hg; have hcz38_0 : w37.cell? ⟨gb262, 0, none⟩ = some (.int .i64 a0_0) := (blk_cell BK262.out 0).trans rfl; have hcz38_1 : w37.cell? ⟨gb262, 1, none⟩ = some (.int .i64 a0_1) := (blk_cell BK262.out 1).trans rfl; have hcz38_2 : w37.cell? ⟨gb262, 2, none⟩ = some (.int .i64 a0_2) := (blk_cell BK262.out 2).trans rfl; have hfz38_0 := blk_frozen BK262.out 0; have hfz38_1 := blk_frozen BK262.out 1; have hfz38_2 := blk_frozen BK262.out 2) | ((with_reducible refine gc_ 81 rfl ?_); refine gL_ 5 Tryz.func81 #[.int .i64 a0_2, .int .i64 0, .int .i64 20] ?_; (with_reducible refine (spec_l1In.calls a0_2 0 20 false _ A2.out).mono ?_); rintro e w' ⟨rfl, ⟨nd, rfl⟩⟩; refine ⟨_, rfl, ?_⟩))
   go_ret
   exact ⟨zR_, zs10_14⟩
 subst c3
 rw [if_pos rfl] at H
 by_cases c4 : a0_0 = 0
 · obtain ⟨H, c4b0, c4b1⟩ := ep_ c4 H
   clear c4
   replace H := bd_ H; obtain ⟨t264, A5, H⟩ := H
   obtain rfl := Option.some.inj H
   go_enter Tryz.func62, Tryz.ntmps62
   go_wp2_with (first | (refine bx_ 1 #[.int .i64 a0_0, .int .i64 a0_1, .int .i64 a0_2] 46 ?_; intro gb262 hg w6 hbox hb; have BK262 := Aside0.mk (hbox); have GW262 : Aside0 (w.heap.size ≤ gb262) := bs_ hg zB_; have GE262 := GW262; replace HB := Aside0.mk (below_step zB_ hb); clear hb hbox hg; have hcz7_0 : w6.cell? ⟨gb262, 0, none⟩ = some (.int .i64 a0_0) := (blk_cell BK262.out 0).trans rfl; have hcz7_1 : w6.cell? ⟨gb262, 1, none⟩ = some (.int .i64 a0_1) := (blk_cell BK262.out 1).trans rfl; have hcz7_2 : w6.cell? ⟨gb262, 2, none⟩ = some (.int .i64 a0_2) := (blk_cell BK262.out 2).trans rfl; have hfz7_0 := blk_frozen BK262.out 0; have hfz7_1 := blk_frozen BK262.out 1; have hfz7_2 := blk_frozen BK262.out 2) | ((with_reducible refine gc_ 81 rfl ?_); refine gL_ 5 Tryz.func81 #[.int .i64 a0_2, .int .i64 0, .int .i64 20] ?_; (with_reducible refine (spec_l1In.calls a0_2 0 20 true _ A2.out).mono ?_); rintro e w' ⟨rfl, ⟨nd, rfl⟩⟩; refine ⟨_, rfl, ?_⟩) | ((with_reducible refine gc_ 81 rfl ?_); refine gL_ 13 Tryz.func81 #[.int .i64 a0_1, .int .i64 0, .int .i64 1] ?_; (with_reducible refine (spec_l1In.calls a0_1 0 1 t264 _ A5.out).mono ?_); rintro e w' ⟨rfl, ⟨nd, rfl⟩⟩; refine ⟨_, rfl, ?_⟩))
   go_ret
   exact ⟨zR_, zs10_14⟩
 obtain ⟨H, c4b0, c4b1⟩ := en_ c4 H
 by_cases c8 : a0_0 = 1
 · obtain ⟨H, c8b0, c8b1⟩ := ep_ c8 H
   clear c8
   replace H := bd_ H; obtain ⟨t265, A9, H⟩ := H
   obtain rfl := Option.some.inj H
   go_enter Tryz.func62, Tryz.ntmps62
   go_wp2_with (first | (refine bx_ 1 #[.int .i64 a0_0, .int .i64 a0_1, .int .i64 a0_2] 46 ?_; intro gb262 hg w10 hbox hb; have BK262 := Aside0.mk (hbox); have GW262 : Aside0 (w.heap.size ≤ gb262) := bs_ hg zB_; have GE262 := GW262; replace HB := Aside0.mk (below_step zB_ hb); clear hb hbox hg; have hcz11_0 : w10.cell? ⟨gb262, 0, none⟩ = some (.int .i64 a0_0) := (blk_cell BK262.out 0).trans rfl; have hcz11_1 : w10.cell? ⟨gb262, 1, none⟩ = some (.int .i64 a0_1) := (blk_cell BK262.out 1).trans rfl; have hcz11_2 : w10.cell? ⟨gb262, 2, none⟩ = some (.int .i64 a0_2) := (blk_cell BK262.out 2).trans rfl; have hfz11_0 := blk_frozen BK262.out 0; have hfz11_1 := blk_frozen BK262.out 1; have hfz11_2 := blk_frozen BK262.out 2) | ((with_reducible refine gc_ 81 rfl ?_); refine gL_ 5 Tryz.func81 #[.int .i64 a0_2, .int .i64 0, .int .i64 20] ?_; (with_reducible refine (spec_l1In.calls a0_2 0 20 true _ A2.out).mono ?_); rintro e w' ⟨rfl, ⟨nd, rfl⟩⟩; refine ⟨_, rfl, ?_⟩) | ((with_reducible refine gc_ 81 rfl ?_); refine gL_ 18 Tryz.func81 #[.int .i64 a0_1, .int .i64 0, .int .i64 3] ?_; (with_reducible refine (spec_l1In.calls a0_1 0 3 t265 _ A9.out).mono ?_); rintro e w' ⟨rfl, ⟨nd, rfl⟩⟩; refine ⟨_, rfl, ?_⟩))
   go_ret
   exact ⟨zR_, zs10_14⟩
 obtain ⟨H, c8b0, c8b1⟩ := en_ c8 H
 by_cases c12 : a0_0 = 2
 · obtain ⟨H, c12b0, c12b1⟩ := ep_ c12 H
   clear c12
   by_cases c13 : a0_1 = 0
   · obtain ⟨H, c13b0, c13b1⟩ := ep_ c13 H
     clear c13
     obtain rfl := Option.some.inj H
     go_enter Tryz.func62, Tryz.ntmps62
     go_wp2_with (first | (refine bx_ 1 #[.int .i64 a0_0, .int .i64 a0_1, .int .i64 a0_2] 46 ?_; intro gb262 hg w14 hbox hb; have BK262 := Aside0.mk (hbox); have GW262 : Aside0 (w.heap.size ≤ gb262) := bs_ hg zB_; have GE262 := GW262; replace HB := Aside0.mk (below_step zB_ hb); clear hb hbox hg; have hcz15_0 : w14.cell? ⟨gb262, 0, none⟩ = some (.int .i64 a0_0) := (blk_cell BK262.out 0).trans rfl; have hcz15_1 : w14.cell? ⟨gb262, 1, none⟩ = some (.int .i64 a0_1) := (blk_cell BK262.out 1).trans rfl; have hcz15_2 : w14.cell? ⟨gb262, 2, none⟩ = some (.int .i64 a0_2) := (blk_cell BK262.out 2).trans rfl; have hfz15_0 := blk_frozen BK262.out 0; have hfz15_1 := blk_frozen BK262.out 1; have hfz15_2 := blk_frozen BK262.out 2) | ((with_reducible refine gc_ 81 rfl ?_); refine gL_ 5 Tryz.func81 #[.int .i64 a0_2, .int .i64 0, .int .i64 20] ?_; (with_reducible refine (spec_l1In.calls a0_2 0 20 true _ A2.out).mono ?_); rintro e w' ⟨rfl, ⟨nd, rfl⟩⟩; refine ⟨_, rfl, ?_⟩))
     go_ret
     exact ⟨zR_, zs10_14⟩
   obtain ⟨H, c13b0, c13b1⟩ := en_ c13 H
   obtain rfl := Option.some.inj H
   go_enter Tryz.func62, Tryz.ntmps62
   go_wp2_with (first | (refine bx_ 1 #[.int .i64 a0_0, .int .i64 a0_1, .int .i64 a0_2] 46 ?_; intro gb262 hg w16 hbox hb; have BK262 := Aside0.mk (hbox); have GW262 : Aside0 (w.heap.size ≤ gb262) := bs_ hg zB_; have GE262 := GW262; replace HB := Aside0.mk (below_step zB_ hb); clear hb hbox hg; have hcz17_0 : w16.cell? ⟨gb262, 0, none⟩ = some (.int .i64 a0_0) := (blk_cell BK262.out 0).trans rfl; have hcz17_1 : w16.cell? ⟨gb262, 1, none⟩ = some (.int .i64 a0_1) := (blk_cell BK262.out 1).trans rfl; have hcz17_2 : w16.cell? ⟨gb262, 2, none⟩ = some (.int .i64 a0_2) := (blk_cell BK262.out 2).trans rfl; have hfz17_0 := blk_frozen BK262.out 0; have hfz17_1 := blk_frozen BK262.out 1; have hfz17_2 := blk_frozen BK262.out 2) | ((with_reducible refine gc_ 81 rfl ?_); refine gL_ 5 Tryz.func81 #[.int .i64 a0_2, .int .i64 0, .int .i64 20] ?_; (with_reducible refine (spec_l1In.calls a0_2 0 20 true _ A2.out).mono ?_); rintro e w' ⟨rfl, ⟨nd, rfl⟩⟩; refine ⟨_, rfl, ?_⟩))
   go_ret
   exact ⟨zR_, zs10_14⟩
 obtain ⟨H, c12b0, c12b1⟩ := en_ c12 H
 by_cases c18 : a0_0 = 3
 · obtain ⟨H, c18b0, c18b1⟩ := ep_ c18 H
   clear c18
   replace H := bd_ H; obtain ⟨t266, A19, H⟩ := H
   by_cases c20 : t266 = true
   · subst c20
     rw [if_pos rfl] at H
     obtain rfl := Option.some.inj H
     go_enter Tryz.func62, Tryz.ntmps62
     go_wp2_with (first | (refine bx_ 1 #[.int .i64 a0_0, .int .i64 a0_1, .int .i64 a0_2] 46 ?_; intro gb262 hg w21 hbox hb; have BK262 := Aside0.mk (hbox); have GW262 : Aside0 (w.heap.size ≤ gb262) := bs_ hg zB_; have GE262 := GW262; replace HB := Aside0.mk (below_step zB_ hb); clear hb hbox hg; have hcz22_0 : w21.cell? ⟨gb262, 0, none⟩ = some (.int .i64 a0_0) := (blk_cell BK262.out 0).trans rfl; have hcz22_1 : w21.cell? ⟨gb262, 1, none⟩ = some (.int .i64 a0_1) := (blk_cell BK262.out 1).trans rfl; have hcz22_2 : w21.cell? ⟨gb262, 2, none⟩ = some (.int .i64 a0_2) := (blk_cell BK262.out 2).trans rfl; have hfz22_0 := blk_frozen BK262.out 0; have hfz22_1 := blk_frozen BK262.out 1; have hfz22_2 := blk_frozen BK262.out 2) | ((with_reducible refine gc_ 81 rfl ?_); refine gL_ 5 Tryz.func81 #[.int .i64 a0_2, .int .i64 0, .int .i64 20] ?_; (with_reducible refine (spec_l1In.calls a0_2 0 20 true _ A2.out).mono ?_); rintro e w' ⟨rfl, ⟨nd, rfl⟩⟩; refine ⟨_, rfl, ?_⟩) | ((with_reducible refine gc_ 81 rfl ?_); refine gL_ 33 Tryz.func81 #[.int .i64 a0_1, .int .i64 0, .int .i64 2] ?_; (with_reducible refine (spec_l1In.calls a0_1 0 2 true _ A19.out).mono ?_); rintro e w' ⟨rfl, ⟨nd, rfl⟩⟩; refine ⟨_, rfl, ?_⟩))
     go_ret
     exact ⟨zR_, zs10_14⟩
   replace H := bf_ c20 H; obtain ⟨rfl, H⟩ := H
   obtain rfl := Option.some.inj H
   go_enter Tryz.func62, Tryz.ntmps62
   go_wp2_with (first | (refine bx_ 1 #[.int .i64 a0_0, .int .i64 a0_1, .int .i64 a0_2] 46 ?_; intro gb262 hg w23 hbox hb; have BK262 := Aside0.mk (hbox); have GW262 : Aside0 (w.heap.size ≤ gb262) := bs_ hg zB_; have GE262 := GW262; replace HB := Aside0.mk (below_step zB_ hb); clear hb hbox hg; have hcz24_0 : w23.cell? ⟨gb262, 0, none⟩ = some (.int .i64 a0_0) := (blk_cell BK262.out 0).trans rfl; have hcz24_1 : w23.cell? ⟨gb262, 1, none⟩ = some (.int .i64 a0_1) := (blk_cell BK262.out 1).trans rfl; have hcz24_2 : w23.cell? ⟨gb262, 2, none⟩ = some (.int .i64 a0_2) := (blk_cell BK262.out 2).trans rfl; have hfz24_0 := blk_frozen BK262.out 0; have hfz24_1 := blk_frozen BK262.out 1; have hfz24_2 := blk_frozen BK262.out 2) | ((with_reducible refine gc_ 81 rfl ?_); refine gL_ 5 Tryz.func81 #[.int .i64 a0_2, .int .i64 0, .int .i64 20] ?_; (with_reducible refine (spec_l1In.calls a0_2 0 20 true _ A2.out).mono ?_); rintro e w' ⟨rfl, ⟨nd, rfl⟩⟩; refine ⟨_, rfl, ?_⟩) | ((with_reducible refine gc_ 81 rfl ?_); refine gL_ 33 Tryz.func81 #[.int .i64 a0_1, .int .i64 0, .int .i64 2] ?_; (with_reducible refine (spec_l1In.calls a0_1 0 2 false _ A19.out).mono ?_); rintro e w' ⟨rfl, ⟨nd, rfl⟩⟩; refine ⟨_, rfl, ?_⟩))
   go_ret
   exact ⟨zR_, zs10_14⟩
 obtain ⟨H, c18b0, c18b1⟩ := en_ c18 H
 by_cases c25 : a0_0 = 4
 · obtain ⟨H, c25b0, c25b1⟩ := ep_ c25 H
   clear c25
   obtain rfl := Option.some.inj H
   go_enter Tryz.func62, Tryz.ntmps62
   go_wp2_with (first | (refine bx_ 1 #[.int .i64 a0_0, .int .i64 a0_1, .int .i64 a0_2] 46 ?_; intro gb262 hg w26 hbox hb; have BK262 := Aside0.mk (hbox); have GW262 : Aside0 (w.heap.size ≤ gb262) := bs_ hg zB_; have GE262 := GW262; replace HB := Aside0.mk (below_step zB_ hb); clear hb hbox hg; have hcz27_0 : w26.cell? ⟨gb262, 0, none⟩ = some (.int .i64 a0_0) := (blk_cell BK262.out 0).trans rfl; have hcz27_1 : w26.cell? ⟨gb262, 1, none⟩ = some (.int .i64 a0_1) := (blk_cell BK262.out 1).trans rfl; have hcz27_2 : w26.cell? ⟨gb262, 2, none⟩ = some (.int .i64 a0_2) := (blk_cell BK262.out 2).trans rfl; have hfz27_0 := blk_frozen BK262.out 0; have hfz27_1 := blk_frozen BK262.out 1; have hfz27_2 := blk_frozen BK262.out 2) | ((with_reducible refine gc_ 81 rfl ?_); refine gL_ 5 Tryz.func81 #[.int .i64 a0_2, .int .i64 0, .int .i64 20] ?_; (with_reducible refine (spec_l1In.calls a0_2 0 20 true _ A2.out).mono ?_); rintro e w' ⟨rfl, ⟨nd, rfl⟩⟩; refine ⟨_, rfl, ?_⟩))
   go_ret
   exact ⟨zR_, zs10_14⟩
 obtain ⟨H, c25b0, c25b1⟩ := en_ c25 H
 by_cases c28 : a0_0 = 5
 rotate_left
 · obtain ⟨H, c28b0, c28b1⟩ := en_ c28 H
   obtain rfl := Option.some.inj H
   go_enter Tryz.func62, Tryz.ntmps62
   go_wp2_with (first | (refine bx_ 1 #[.int .i64 a0_0, .int .i64 a0_1, .int .i64 a0_2] 46 ?_; intro gb262 hg w35 hbox hb; have BK262 := Aside0.mk (hbox); have GW262 : Aside0 (w.heap.size ≤ gb262) := bs_ hg zB_; have GE262 := GW262; replace HB := Aside0.mk (below_step zB_ hb); clear hb hbox hg; have hcz36_0 : w35.cell? ⟨gb262, 0, none⟩ = some (.int .i64 a0_0) := (blk_cell BK262.out 0).trans rfl; have hcz36_1 : w35.cell? ⟨gb262, 1, none⟩ = some (.int .i64 a0_1) := (blk_cell BK262.out 1).trans rfl; have hcz36_2 : w35.cell? ⟨gb262, 2, none⟩ = some (.int .i64 a0_2) := (blk_cell BK262.out 2).trans rfl; have hfz36_0 := blk_frozen BK262.out 0; have hfz36_1 := blk_frozen BK262.out 1; have hfz36_2 := blk_frozen BK262.out 2) | ((with_reducible refine gc_ 81 rfl ?_); refine gL_ 5 Tryz.func81 #[.int .i64 a0_2, .int .i64 0, .int .i64 20] ?_; (with_reducible refine (spec_l1In.calls a0_2 0 20 true _ A2.out).mono ?_); rintro e w' ⟨rfl, ⟨nd, rfl⟩⟩; refine ⟨_, rfl, ?_⟩))
   go_ret
   exact ⟨zR_, zs10_14⟩
 obtain ⟨H, c28b0, c28b1⟩ := ep_ c28 H
 clear c28
 by_cases c29 : a0_1 = 0
 · obtain ⟨H, c29b0, c29b1⟩ := ep_ c29 H
   clear c29
   replace H := bd_ H; obtain ⟨t267, A30, H⟩ := H
   obtain rfl := Option.some.inj H
   go_enter Tryz.func62, Tryz.ntmps62
   go_wp2_with (first | (refine bx_ 1 #[.int .i64 a0_0, .int .i64 a0_1, .int .i64 a0_2] 46 ?_; intro gb262 hg w31 hbox hb; have BK262 := Aside0.mk (hbox); have GW262 : Aside0 (w.heap.size ≤ gb262) := bs_ hg zB_; have GE262 := GW262; replace HB := Aside0.mk (below_step zB_ hb); clear hb hbox hg; have hcz32_0 : w31.cell? ⟨gb262, 0, none⟩ = some (.int .i64 a0_0) := (blk_cell BK262.out 0).trans rfl; have hcz32_1 : w31.cell? ⟨gb262, 1, none⟩ = some (.int .i64 a0_1) := (blk_cell BK262.out 1).trans rfl; have hcz32_2 : w31.cell? ⟨gb262, 2, none⟩ = some (.int .i64 a0_2) := (blk_cell BK262.out 2).trans rfl; have hfz32_0 := blk_frozen BK262.out 0; have hfz32_1 := blk_frozen BK262.out 1; have hfz32_2 := blk_frozen BK262.out 2) | ((with_reducible refine gc_ 81 rfl ?_); refine gL_ 5 Tryz.func81 #[.int .i64 a0_2, .int .i64 0, .int .i64 20] ?_; (with_reducible refine (spec_l1In.calls a0_2 0 20 true _ A2.out).mono ?_); rintro e w' ⟨rfl, ⟨nd, rfl⟩⟩; refine ⟨_, rfl, ?_⟩) | (go_at_call 81; (with_reducible refine (spec_l1In.calls a0_2 2 9 t267 _ A30.out).mono ?_); rintro e w' ⟨rfl, ⟨nd, rfl⟩⟩))
   go_ret
   exact ⟨zR_, zs10_14⟩
 obtain ⟨H, c29b0, c29b1⟩ := en_ c29 H
 obtain rfl := Option.some.inj H
 go_enter Tryz.func62, Tryz.ntmps62
 go_wp2_with (first | (refine bx_ 1 #[.int .i64 a0_0, .int .i64 a0_1, .int .i64 a0_2] 46 ?_; intro gb262 hg w33 hbox hb; have BK262 := Aside0.mk (hbox); have GW262 : Aside0 (w.heap.size ≤ gb262) := bs_ hg zB_; have GE262 := GW262; replace HB := Aside0.mk (below_step zB_ hb); clear hb hbox hg; have hcz34_0 : w33.cell? ⟨gb262, 0, none⟩ = some (.int .i64 a0_0) := (blk_cell BK262.out 0).trans rfl; have hcz34_1 : w33.cell? ⟨gb262, 1, none⟩ = some (.int .i64 a0_1) := (blk_cell BK262.out 1).trans rfl; have hcz34_2 : w33.cell? ⟨gb262, 2, none⟩ = some (.int .i64 a0_2) := (blk_cell BK262.out 2).trans rfl; have hfz34_0 := blk_frozen BK262.out 0; have hfz34_1 := blk_frozen BK262.out 1; have hfz34_2 := blk_frozen BK262.out 2) | ((with_reducible refine gc_ 81 rfl ?_); refine gL_ 5 Tryz.func81 #[.int .i64 a0_2, .int .i64 0, .int .i64 20] ?_; (with_reducible refine (spec_l1In.calls a0_2 0 20 true _ A2.out).mono ?_); rintro e w' ⟨rfl, ⟨nd, rfl⟩⟩; refine ⟨_, rfl, ?_⟩))
 go_ret
 exact ⟨zR_, zs10_14⟩

/-! ### spec_pzGood: function 39 -/
def spec_pzGood.l0 : Nat → List (S46) → Int → Int → Option (Bool)
 | 0, _, _, _ => none
 | k + 1, x10, x11, x12 => if x12 < x11 then (if 0 ≤ x12 then (if x12 < (x10.length : Int) then ((spec_pzClue.f ((rd_T46 x10 x12).f0) ((rd_T46 x10 x12).f1) ((rd_T46 x10 x12).f2)).bind fun t271 => (if t271 = true then (spec_pzGood.l0 k x10 x11 (wrap64 (x12 + 1))) else (some false))) else (none)) else (none)) else (some true)
def spec_pzGood.f (k : Nat) (l0_0 : List (S46)) : Option (Bool) := if (l0_0.length : Int) > 6 then (some false) else (spec_pzGood.l0 k l0_0 (l0_0.length : Int) 0)
theorem spec_pzGood.mono_l : ∀ k, (∀ y0 y1 y2, LeO (spec_pzGood.l0 k y0 y1 y2) (spec_pzGood.l0 (k + 1) y0 y1 y2))
 | 0 => fun _ _ _ r h => by simp [spec_pzGood.l0] at h
 | k + 1 => by
  have ih0 := spec_pzGood.mono_l k
  intro y0 y1 y2
  unfold spec_pzGood.l0
  have m1_ := @ih0
  exact zM_
theorem spec_pzGood.mono : ∀ a0 k, LeO (spec_pzGood.f k a0) (spec_pzGood.f (k + 1) a0) := by
 intro a0 k
 have ih0 := spec_pzGood.mono_l k
 unfold spec_pzGood.f
 have m1_ := @ih0
 exact zM_
theorem spec_pzGood.calls (k : Nat) (A0_0 : Option Addr) (c0_0 : Nat) (l0_0 : List (S46)) (r : Bool) (w : World) (hr0_0 : Kd.C k46 w A0_0 l0_0.length l0_0) (hc0_0 : l0_0.length ≤ c0_0) (h : spec_pzGood.f k l0_0 = some r) :
 Calls Tryz.prog 39 #[.agg #[.slice A0_0 l0_0.length c0_0]] w fun e w' => e = .returned (.bool r) ∧ Below w.heap.size w w' := by
 have hu26 := Tryz.underlying26
 have hu46 := Tryz.underlying46
 have HR0_0 := Aside0.mk hr0_0
 have HC0_0 := Aside0.mk hc0_0
 clear hr0_0 hc0_0
 have HB := Aside0.mk (Below.refl w.heap.size w)
 unfold spec_pzGood.f at h
 have H := h
 clear h
 by_cases c2 : (l0_0.length : Int) > 6
 · rw [if_pos c2] at H
   have c2b0 : decide (6 < (l0_0.length : Int)) = true := decide_eq_true c2
   have c2b1 : decide (6 < l0_0.length) = true := decide_eq_true (by omega)
   clear c2
   obtain rfl := Option.some.inj H
   go_enter Tryz.func39, Tryz.ntmps39
   go_wp2_with (first | (refine bx_ 1 #[.slice A0_0 l0_0.length c0_0] 26 ?_; intro gb268 hg w3 hbox hb; have BK268 := Aside0.mk (hbox); have GW268 : Aside0 (w.heap.size ≤ gb268) := bs_ hg zB_; have GE268 := GW268; replace HB := Aside0.mk (below_step zB_ hb); clear hb hbox hg; have hcz4_0 : w3.cell? ⟨gb268, 0, none⟩ = some (.slice A0_0 l0_0.length c0_0) := (blk_cell BK268.out 0).trans rfl; have hfz4_0 := blk_frozen BK268.out 0))
   go_ret
   exact ⟨zR_, zs10_15⟩
 rw [if_neg c2] at H
 have c2b0 : decide (6 < (l0_0.length : Int)) = false := decide_eq_false c2
 have c2b1 : decide (6 < l0_0.length) = false := decide_eq_false (by omega)
 clear c2
 have H' := Aside0.mk H
 clear H
 go_enter Tryz.func39, Tryz.ntmps39
 go_wp2_with (first | (refine bx_ 1 #[.slice A0_0 l0_0.length c0_0] 26 ?_; intro gb268 hg w5 hbox hb; have BK268 := Aside0.mk (hbox); have GW268 : Aside0 (w.heap.size ≤ gb268) := bs_ hg zB_; have GE268 := GW268; replace HB := Aside0.mk (below_step zB_ hb); clear hb hbox hg; have hcz6_0 : w5.cell? ⟨gb268, 0, none⟩ = some (.slice A0_0 l0_0.length c0_0) := (blk_cell BK268.out 0).trans rfl; have hfz6_0 := blk_frozen BK268.out 0))
 go_loopg [12] k (fun kq v12 w' => ∃ (x12_1 : Int), v12 = .int .i64 x12_1 ∧ Aside0 (spec_pzGood.l0 kq l0_0 (l0_0.length : Int) x12_1 = some r) ∧ Aside0 (kq ≤ k) ∧ Aside0 (w'.heap[gb268]? = some (.cells #[(.slice A0_0 l0_0.length c0_0)] 26 (0, 0))) ∧ Aside0 (Below w.heap.size w w'))
 case atStart => exact ⟨(0), zV_, H', ⟨Nat.le_refl _⟩, ⟨b_ BK268.out⟩, ⟨zs10_15⟩⟩
 case round =>
  clear H'
  obtain ⟨x12_1, rfl, HA, HK1, BK268, HB⟩ := hrel
  cases gk with
  | zero => exact absurd HA.out (by simp [spec_pzGood.l0])
  | succ k1 =>
   have H := HA.out
   clear HA
   simp only [spec_pzGood.l0] at H
   by_cases c7 : x12_1 < (l0_0.length : Int)
   rotate_left
   · rw [if_neg c7] at H
     have c7b0 := decide_eq_false c7
     clear c7
     obtain rfl := Option.some.inj H
     go_wp2
     go_ret
     exact ⟨zR_, zs10_15⟩
   rw [if_pos c7] at H
   have c7b0 := decide_eq_true c7
   clear c7
   replace H := gd_ H; obtain ⟨c8, H⟩ := H
   have c8b0 : decide (0 ≤ x12_1) = true := decide_eq_true c8
   clear c8
   replace H := gd_ H; obtain ⟨c9, H⟩ := H
   have c9b0 : decide (x12_1 < (l0_0.length : Int)) = true := decide_eq_true c9
   clear c9
   replace H := bd_ H; obtain ⟨t271, A10, H⟩ := H
   by_cases c11 : t271 = true
   · subst c11
     rw [if_pos rfl] at H
     have H' := Aside0.mk H
     clear H
     have p269 : 0 ≤ (x12_1 : Int) := of_decide_eq_true zS_
     have q269 : x12_1 < (l0_0.length : Int) := of_decide_eq_true zS_
     obtain ⟨ad269, e269, hx269_0, hx269_1, hx269_2⟩ := at_T46 HR0_0.out x12_1 p269 q269
     cases e269
     replace hx269_0 := (HB.out.cell (World.block_lt_of_cell? w _ hx269_0)).trans hx269_0
     replace hx269_1 := (HB.out.cell (World.block_lt_of_cell? w _ hx269_1)).trans hx269_1
     replace hx269_2 := (HB.out.cell (World.block_lt_of_cell? w _ hx269_2)).trans hx269_2
     replace p269 := eq_true p269
     replace q269 := eq_true q269
     go_wp2_with (first | (refine bx_ 4 #[.int .i64 0, .int .i64 0, .int .i64 0] 46 ?_; intro gb270 hg w12 hbox hb; have BK270 := Aside0.mk (hbox); have GW270 : Aside0 (w.heap.size ≤ gb270) := bs_ hg z10_4_; have GE270 := GW270; replace HB := Aside0.mk (below_step z10_4_ hb); have NB268_270 := nl_ BK268 z10_5_ hg; have NB270_268 := ns_ NB268_270; replace BK268 := bb_ BK268 z10_5_ hb; clear hb hbox hg; have hnb13 := NB270_268.out; have hnc13 := NB268_270.out; have hcz14_0 : w12.cell? ⟨gb270, 0, none⟩ = some (.int .i64 0) := (blk_cell BK270.out 0).trans rfl; have hcz14_1 : w12.cell? ⟨gb270, 1, none⟩ = some (.int .i64 0) := (blk_cell BK270.out 1).trans rfl; have hcz14_2 : w12.cell? ⟨gb270, 2, none⟩ = some (.int .i64 0) := (blk_cell BK270.out 2).trans rfl; have hfz14_0 := blk_frozen BK270.out 0; have hfz14_1 := blk_frozen BK270.out 1; have hfz14_2 := blk_frozen BK270.out 2) | ((with_reducible refine gc_ 62 rfl ?_); refine gL_ 17 Tryz.func62 #[.agg #[.int .i64 ((rd_T46 l0_0 x12_1).f0), .int .i64 ((rd_T46 l0_0 x12_1).f1), .int .i64 ((rd_T46 l0_0 x12_1).f2)]] ?_; (with_reducible refine (spec_pzClue.calls ((rd_T46 l0_0 x12_1).f0) ((rd_T46 l0_0 x12_1).f1) ((rd_T46 l0_0 x12_1).f2) true _ A10.out).mono ?_); rintro e w15 ⟨rfl, hb⟩; refine ⟨_, rfl, ?_⟩; replace BK268 := bb_ BK268 z10_3_ hb; replace BK270 := Aside0.mk (blk_below (g := gb270) (o := .cells #[.int .i64 ((rd_T46 l0_0 x12_1).f0), .int .i64 ((rd_T46 l0_0 x12_1).f1), .int .i64 ((rd_T46 l0_0 x12_1).f2)] 46 (0, 0)) z10_2_ hb); replace HB := Aside0.mk (below_step (by repeat (first | (with_reducible first | exact HB.out | apply below_alloc | apply pw_below_drewN | apply below_drew1 | refine below_set ?_ GE268.out | refine below_set ?_ GE270.out) | exact HB.out)) hb)))
     go_roundg k1
     case measure => have := HK1.out; omega
     case rel => exact ⟨(wrap64 (x12_1 + 1)), zV_, H', ⟨zs10_3⟩, ⟨b_ BK268.out⟩, ⟨zs10_16⟩⟩
   replace H := bf_ c11 H; obtain ⟨rfl, H⟩ := H
   obtain rfl := Option.some.inj H
   have p269 : 0 ≤ (x12_1 : Int) := of_decide_eq_true zS_
   have q269 : x12_1 < (l0_0.length : Int) := of_decide_eq_true zS_
   obtain ⟨ad269, e269, hx269_0, hx269_1, hx269_2⟩ := at_T46 HR0_0.out x12_1 p269 q269
   cases e269
   replace hx269_0 := (HB.out.cell (World.block_lt_of_cell? w _ hx269_0)).trans hx269_0
   replace hx269_1 := (HB.out.cell (World.block_lt_of_cell? w _ hx269_1)).trans hx269_1
   replace hx269_2 := (HB.out.cell (World.block_lt_of_cell? w _ hx269_2)).trans hx269_2
   replace p269 := eq_true p269
   replace q269 := eq_true q269
   go_wp2_with (first | (refine bx_ 4 #[.int .i64 0, .int .i64 0, .int .i64 0] 46 ?_; intro gb270 hg w16 hbox hb; have BK270 := Aside0.mk (hbox); have GW270 : Aside0 (w.heap.size ≤ gb270) := bs_ hg z10_4_; have GE270 := GW270; replace HB := Aside0.mk (below_step z10_4_ hb); have NB268_270 := nl_ BK268 z10_5_ hg; have NB270_268 := ns_ NB268_270; replace BK268 := bb_ BK268 z10_5_ hb; clear hb hbox hg; have hnb17 := NB270_268.out; have hnc17 := NB268_270.out; have hcz18_0 : w16.cell? ⟨gb270, 0, none⟩ = some (.int .i64 0) := (blk_cell BK270.out 0).trans rfl; have hcz18_1 : w16.cell? ⟨gb270, 1, none⟩ = some (.int .i64 0) := (blk_cell BK270.out 1).trans rfl; have hcz18_2 : w16.cell? ⟨gb270, 2, none⟩ = some (.int .i64 0) := (blk_cell BK270.out 2).trans rfl; have hfz18_0 := blk_frozen BK270.out 0; have hfz18_1 := blk_frozen BK270.out 1; have hfz18_2 := blk_frozen BK270.out 2) | ((with_reducible refine gc_ 62 rfl ?_); refine gL_ 17 Tryz.func62 #[.agg #[.int .i64 ((rd_T46 l0_0 x12_1).f0), .int .i64 ((rd_T46 l0_0 x12_1).f1), .int .i64 ((rd_T46 l0_0 x12_1).f2)]] ?_; (with_reducible refine (spec_pzClue.calls ((rd_T46 l0_0 x12_1).f0) ((rd_T46 l0_0 x12_1).f1) ((rd_T46 l0_0 x12_1).f2) false _ A10.out).mono ?_); rintro e w19 ⟨rfl, hb⟩; refine ⟨_, rfl, ?_⟩; replace BK268 := bb_ BK268 z10_3_ hb; replace BK270 := Aside0.mk (blk_below (g := gb270) (o := .cells #[.int .i64 ((rd_T46 l0_0 x12_1).f0), .int .i64 ((rd_T46 l0_0 x12_1).f1), .int .i64 ((rd_T46 l0_0 x12_1).f2)] 46 (0, 0)) z10_2_ hb); replace HB := Aside0.mk (below_step (by repeat (first | (with_reducible first | exact HB.out | apply below_alloc | apply pw_below_drewN | apply below_drew1 | refine below_set ?_ GE268.out | refine below_set ?_ GE270.out) | exact HB.out)) hb)))
   go_ret
   exact ⟨zR_, zs10_16⟩

/-! ### spec_tkNumber: function 107 -/
def spec_tkNumber.l0 : Nat → ByteArray → Int → Int → Option (Int)
 | 0, _, _, _ => none
 | k + 1, x0, x3, x4 => if x4 < (x0.size : Int) then (if 0 ≤ x4 then (spec_tkNumber.l0 k x0 (wrap64 ((wrap64 (x3 * 10)) + (((bt x0 x4) - 48) % 256))) (wrap64 (x4 + 1))) else (none)) else (some x3)
def spec_tkNumber.f (k : Nat) (a0 : ByteArray) : Option (Int) := spec_tkNumber.l0 k a0 0 0
theorem spec_tkNumber.mono_l : ∀ k, (∀ y0 y1 y2, LeO (spec_tkNumber.l0 k y0 y1 y2) (spec_tkNumber.l0 (k + 1) y0 y1 y2))
 | 0 => fun _ _ _ r h => by simp [spec_tkNumber.l0] at h
 | k + 1 => by
  have ih0 := spec_tkNumber.mono_l k
  intro y0 y1 y2
  unfold spec_tkNumber.l0
  have m1_ := @ih0
  exact zM_
theorem spec_tkNumber.mono : ∀ a0 k, LeO (spec_tkNumber.f k a0) (spec_tkNumber.f (k + 1) a0) := by
 intro a0 k
 have ih0 := spec_tkNumber.mono_l k
 unfold spec_tkNumber.f
 have m1_ := @ih0
 exact zM_
theorem spec_tkNumber.calls (k : Nat) (a0 : ByteArray) (r : Int) (w : World) (h : spec_tkNumber.f k a0 = some r) :
 Calls Tryz.prog 107 #[.string a0] w fun e w' => e = .returned (.int .i64 r) ∧ Drawn0 w w' := by
 unfold spec_tkNumber.f at h
 have H := h
 clear h
 have H' := Aside0.mk H
 clear H
 go_enter Tryz.func107, Tryz.ntmps107
 go_wp2
 go_loopg [3, 4] k (fun kq v3 v4 w' => ∃ (x3_1 : Int) (x4_1 : Int), v3 = .int .i64 x3_1 ∧ v4 = .int .i64 x4_1 ∧ Aside0 (spec_tkNumber.l0 kq a0 x3_1 x4_1 = some r) ∧ Aside0 (kq ≤ k) ∧ Drawn0 w w')
 case atStart => exact ⟨(0), (0), zV_, zV_, H', ⟨Nat.le_refl _⟩, zs10_1⟩
 case round =>
  clear H'
  try clear c1
  obtain ⟨x3_1, x4_1, rfl, rfl, HA, HK1, ⟨m1, rfl⟩⟩ := hrel
  cases gk with
  | zero => exact absurd HA.out (by simp [spec_tkNumber.l0])
  | succ k1 =>
   have H := HA.out
   clear HA
   simp only [spec_tkNumber.l0] at H
   by_cases c2 : x4_1 < (a0.size : Int)
   rotate_left
   · rw [if_neg c2] at H
     have c2b0 := decide_eq_false c2
     clear c2
     obtain rfl := Option.some.inj H
     go_wp2
     go_ret
     exact ⟨zs10_2, zs10_1⟩
   rw [if_pos c2] at H
   have c2b0 := decide_eq_true c2
   clear c2
   replace H := gd_ H; obtain ⟨c3, H⟩ := H
   have c3b0 : decide (0 ≤ x4_1) = true := decide_eq_true c3
   clear c3
   have H' := Aside0.mk H
   clear H
   have p4 : 0 ≤ (x4_1 : Int) := of_decide_eq_true zS_
   have q4 : x4_1 < (a0.size : Int) := of_decide_eq_true zS_
   have hx4 := bt_at a0 x4_1
   replace p4 := eq_true p4
   replace q4 := eq_true q4
   go_wp2
   go_roundg k1
   case measure => have := HK1.out; omega
   case rel => exact ⟨(wrap64 ((wrap64 (x3_1 * 10)) + (((bt a0 x4_1) - 48) % 256))), (wrap64 (x4_1 + 1)), zV_, zV_, H', ⟨zs10_3⟩, zs10_1⟩

/-! ### spec_pzFits: function 82 -/
def spec_pzFits.f (k : Nat) (a0_0 : Int) (a0_1 : Int) (a0_2 : Int) (a1 : ByteArray) : Option (Bool) := if a0_0 = 5 then ((spec_tkNumber.f k a1).bind fun t273 => (if a0_2 = 0 then (none) else (some ((Int.tmod t273 a0_2) == 0)))) else ((spec_pzValue.f k a0_0 a0_1 a1).bind fun t274 => (some (t274 == a0_2)))
theorem spec_pzFits.mono : ∀ a0 a1 a2 a3 k, LeO (spec_pzFits.f k a0 a1 a2 a3) (spec_pzFits.f (k + 1) a0 a1 a2 a3) := by
 intro a0 a1 a2 a3 k
 unfold spec_pzFits.f
 have m1_ := @spec_pzValue.mono
 have m2_ := @spec_tkNumber.mono
 exact zM_
theorem spec_pzFits.calls (k : Nat) (a0_0 : Int) (a0_1 : Int) (a0_2 : Int) (a1 : ByteArray) (r : Bool) (w : World) (h : spec_pzFits.f k a0_0 a0_1 a0_2 a1 = some r) :
 Calls Tryz.prog 82 #[.agg #[.int .i64 a0_0, .int .i64 a0_1, .int .i64 a0_2], .string a1] w fun e w' => e = .returned (.bool r) ∧ Below w.heap.size w w' := by
 have hu46 := Tryz.underlying46
 have HB := Aside0.mk (Below.refl w.heap.size w)
 unfold spec_pzFits.f at h
 have H := h
 clear h
 by_cases c3 : a0_0 = 5
 · obtain ⟨H, c3b0, c3b1⟩ := ep_ c3 H
   clear c3
   replace H := bd_ H; obtain ⟨t273, A4, H⟩ := H
   replace H := nz_ H; obtain ⟨c5, H⟩ := H
   have c5b0 : (a0_2 == 0) = false := beq_eq_false_iff_ne.mpr c5
   have c5b1 : (a0_2 != 0) = true := bne_iff_ne.mpr c5
   obtain rfl := Option.some.inj H
   go_enter Tryz.func82, Tryz.ntmps82
   go_wp2_with (first | (refine bx_ 2 #[.int .i64 a0_0, .int .i64 a0_1, .int .i64 a0_2] 46 ?_; intro gb272 hg w6 hbox hb; have BK272 := Aside0.mk (hbox); have GW272 : Aside0 (w.heap.size ≤ gb272) := bs_ hg zB_; have GE272 := GW272; replace HB := Aside0.mk (below_step zB_ hb); clear hb hbox hg; have hcz7_0 : w6.cell? ⟨gb272, 0, none⟩ = some (.int .i64 a0_0) := (blk_cell BK272.out 0).trans rfl; have hcz7_1 : w6.cell? ⟨gb272, 1, none⟩ = some (.int .i64 a0_1) := (blk_cell BK272.out 1).trans rfl; have hcz7_2 : w6.cell? ⟨gb272, 2, none⟩ = some (.int .i64 a0_2) := (blk_cell BK272.out 2).trans rfl; have hfz7_0 := blk_frozen BK272.out 0; have hfz7_1 := blk_frozen BK272.out 1; have hfz7_2 := blk_frozen BK272.out 2) | (go_at_call 107; (with_reducible refine (spec_tkNumber.calls k a1 t273 _ A4.out).mono ?_); rintro e w' ⟨rfl, ⟨nd, rfl⟩⟩; (try first | exact ⟨rfl, _, World.drewN_drewN _ _ _⟩ | exact ⟨rfl, _, Eq.trans (World.drewN_drewN _ _ _) (congrArg (World.drewN _) (Nat.add_assoc _ _ _))⟩)))
   repeat (go_quiet (first | (go_at_call 107; (with_reducible refine (spec_tkNumber.calls k a1 t273 _ A4.out).mono ?_); rintro e w' ⟨rfl, ⟨nd, rfl⟩⟩; (try first | exact ⟨rfl, _, World.drewN_drewN _ _ _⟩ | exact ⟨rfl, _, Eq.trans (World.drewN_drewN _ _ _) (congrArg (World.drewN _) (Nat.add_assoc _ _ _))⟩))); try go_wp2_with (first | (refine bx_ 2 #[.int .i64 a0_0, .int .i64 a0_1, .int .i64 a0_2] 46 ?_; intro gb272 hg w6 hbox hb; have BK272 := Aside0.mk (hbox); have GW272 : Aside0 (w.heap.size ≤ gb272) := bs_ hg zB_; have GE272 := GW272; replace HB := Aside0.mk (below_step zB_ hb); clear hb hbox hg; have hcz7_0 : w6.cell? ⟨gb272, 0, none⟩ = some (.int .i64 a0_0) := (blk_cell BK272.out 0).trans rfl; have hcz7_1 : w6.cell? ⟨gb272, 1, none⟩ = some (.int .i64 a0_1) := (blk_cell BK272.out 1).trans rfl; have hcz7_2 : w6.cell? ⟨gb272, 2, none⟩ = some (.int .i64 a0_2) := (blk_cell BK272.out 2).trans rfl; have hfz7_0 := blk_frozen BK272.out 0; have hfz7_1 := blk_frozen BK272.out 1; have hfz7_2 := blk_frozen BK272.out 2) | (go_at_call 107; (with_reducible refine (spec_tkNumber.calls k a1 t273 _ A4.out).mono ?_); rintro e w' ⟨rfl, ⟨nd, rfl⟩⟩; (try first | exact ⟨rfl, _, World.drewN_drewN _ _ _⟩ | exact ⟨rfl, _, Eq.trans (World.drewN_drewN _ _ _) (congrArg (World.drewN _) (Nat.add_assoc _ _ _))⟩))))
   go_ret
   exact ⟨zR_, zs10_17⟩
 obtain ⟨H, c3b0, c3b1⟩ := en_ c3 H
 replace H := bd_ H; obtain ⟨t274, A8, H⟩ := H
 obtain rfl := Option.some.inj H
 go_enter Tryz.func82, Tryz.ntmps82
 go_wp2_with (first | (refine bx_ 2 #[.int .i64 a0_0, .int .i64 a0_1, .int .i64 a0_2] 46 ?_; intro gb272 hg w9 hbox hb; have BK272 := Aside0.mk (hbox); have GW272 : Aside0 (w.heap.size ≤ gb272) := bs_ hg zB_; have GE272 := GW272; replace HB := Aside0.mk (below_step zB_ hb); clear hb hbox hg; have hcz10_0 : w9.cell? ⟨gb272, 0, none⟩ = some (.int .i64 a0_0) := (blk_cell BK272.out 0).trans rfl; have hcz10_1 : w9.cell? ⟨gb272, 1, none⟩ = some (.int .i64 a0_1) := (blk_cell BK272.out 1).trans rfl; have hcz10_2 : w9.cell? ⟨gb272, 2, none⟩ = some (.int .i64 a0_2) := (blk_cell BK272.out 2).trans rfl; have hfz10_0 := blk_frozen BK272.out 0; have hfz10_1 := blk_frozen BK272.out 1; have hfz10_2 := blk_frozen BK272.out 2) | (go_at_call 108; (with_reducible refine (spec_pzValue.calls k a0_0 a0_1 a1 t274 _ A8.out).mono ?_); rintro e w' ⟨rfl, ⟨nd, rfl⟩⟩; (try first | exact ⟨rfl, _, World.drewN_drewN _ _ _⟩ | exact ⟨rfl, _, Eq.trans (World.drewN_drewN _ _ _) (congrArg (World.drewN _) (Nat.add_assoc _ _ _))⟩)))
 repeat (go_quiet (first | (go_at_call 108; (with_reducible refine (spec_pzValue.calls k a0_0 a0_1 a1 t274 _ A8.out).mono ?_); rintro e w' ⟨rfl, ⟨nd, rfl⟩⟩; (try first | exact ⟨rfl, _, World.drewN_drewN _ _ _⟩ | exact ⟨rfl, _, Eq.trans (World.drewN_drewN _ _ _) (congrArg (World.drewN _) (Nat.add_assoc _ _ _))⟩))); try go_wp2_with (first | (refine bx_ 2 #[.int .i64 a0_0, .int .i64 a0_1, .int .i64 a0_2] 46 ?_; intro gb272 hg w9 hbox hb; have BK272 := Aside0.mk (hbox); have GW272 : Aside0 (w.heap.size ≤ gb272) := bs_ hg zB_; have GE272 := GW272; replace HB := Aside0.mk (below_step zB_ hb); clear hb hbox hg; have hcz10_0 : w9.cell? ⟨gb272, 0, none⟩ = some (.int .i64 a0_0) := (blk_cell BK272.out 0).trans rfl; have hcz10_1 : w9.cell? ⟨gb272, 1, none⟩ = some (.int .i64 a0_1) := (blk_cell BK272.out 1).trans rfl; have hcz10_2 : w9.cell? ⟨gb272, 2, none⟩ = some (.int .i64 a0_2) := (blk_cell BK272.out 2).trans rfl; have hfz10_0 := blk_frozen BK272.out 0; have hfz10_1 := blk_frozen BK272.out 1; have hfz10_2 := blk_frozen BK272.out 2) | (go_at_call 108; (with_reducible refine (spec_pzValue.calls k a0_0 a0_1 a1 t274 _ A8.out).mono ?_); rintro e w' ⟨rfl, ⟨nd, rfl⟩⟩; (try first | exact ⟨rfl, _, World.drewN_drewN _ _ _⟩ | exact ⟨rfl, _, Eq.trans (World.drewN_drewN _ _ _) (congrArg (World.drewN _) (Nat.add_assoc _ _ _))⟩))))
 go_ret
 exact ⟨zR_, zs10_17⟩

/-! ### spec_pzAll: function 40 -/
def spec_pzLook.bad (k : Nat) (b : ByteArray) (x : S46) : Option Bool := (spec_pzFits.f k x.f0 x.f1 x.f2 b).map (!·)
def spec_pzLook.leaf (k : Nat) (l : List S46) (b : ByteArray) (out : List ByteArray) : Option (List ByteArray) := if out.length < 4096 then (Fn.anyO (spec_pzLook.bad k b) l).bind fun t => some (if t then out else out ++ [b]) else none
def spec_pzLook.dig (F : ByteArray → List ByteArray → Option (List ByteArray)) (k : Nat) (b : ByteArray) : Nat → Int → List ByteArray → Option (List ByteArray)
 | 0, _, out => some out
 | c + 1, n, out => (spec_l1Num.f k n).bind fun s => if b.size + s.size ≤ 4 then (if s.size = 1 then (F (b ++ s) out).bind fun o => spec_pzLook.dig F k b c (n + 1) o else none) else none
def spec_pzLook.f (k : Nat) (l : List S46) : Nat → ByteArray → List ByteArray → Option (List ByteArray)
 | 0, b, out => spec_pzLook.leaf k l b out
 | d + 1, b, out => spec_pzLook.dig (spec_pzLook.f k l d) k b 6 0 out
def spec_pzAll.f (k : Nat) (l0 : List S46) : Option (List ByteArray) := spec_pzLook.f k l0 4 ByteArray.empty []
theorem spec_pzLook.dig_mono {F G : ByteArray → List ByteArray → Option (List ByteArray)} (hF : ∀ b o, LeO (F b o) (G b o)) (k : Nat) (b : ByteArray) : ∀ c n out, LeO (spec_pzLook.dig F k b c n out) (spec_pzLook.dig G (k + 1) b c n out)
 | 0, _, _ => LeO.refl _
 | c + 1, n, out => by
  unfold spec_pzLook.dig
  refine LeO.bind (spec_l1Num.mono _ _) (fun s => LeO.ite (LeO.ite (LeO.bind (hF _ _) (fun o => spec_pzLook.dig_mono hF k b c _ _)) (LeO.refl _)) (LeO.refl _))
theorem spec_pzLook.mono (k : Nat) (l : List S46) : ∀ d b out, LeO (spec_pzLook.f k l d b out) (spec_pzLook.f (k + 1) l d b out)
 | 0, b, out => by
  unfold spec_pzLook.f spec_pzLook.leaf
  refine LeO.ite (LeO.bind (fun r hr => Fn.anyO_le (fun x r hr => ?_) l r hr) (fun _ => LeO.refl _)) (LeO.refl _)
  unfold spec_pzLook.bad at hr ⊢
  obtain ⟨t, ht, h⟩ := Option.map_eq_some_iff.mp hr
  exact Option.map_eq_some_iff.mpr ⟨t, spec_pzFits.mono _ _ _ _ _ t ht, h⟩
 | d + 1, b, out => spec_pzLook.dig_mono (fun b o => spec_pzLook.mono k l d b o) k b _ _ _
theorem spec_pzAll.mono : ∀ a0 k, LeO (spec_pzAll.f k a0) (spec_pzAll.f (k + 1) a0) := fun a0 k => spec_pzLook.mono k a0 _ _ _
theorem spec_pzLook.succ_ (n : Nat) (h : n < 4611686018427387904) : wrap64 ((n : Int) + 1) = ((n + 1 : Nat) : Int) := by simp [wrap64]; omega
theorem spec_pzLook.succv_ (n : Nat) (h : n < 4611686018427387904) : Value.int .i64 (wrap64 ((n : Int) + 1)) = Value.int .i64 ((n + 1 : Nat) : Int) := by rw [spec_pzLook.succ_ n h]
theorem spec_pzLook.calls (k : Nat) (A0 : Option Addr) (c0 : Nat) (l0 : List (S46)) (w0 : World) (g : Nat) (hr0 : Kd.C k46 w0 A0 l0.length l0) (hc0 : l0.length ≤ c0) (hg : w0.heap.size ≤ g) : ∀ (d : Nat) (b : ByteArray) (v : Value) (out r : List ByteArray) (w : World) (_ : b.size + d = 4) (_ : Below w0.heap.size w0 w) (_ : w.heap[g]? = some (.cells #[v] 28 (0, 0))) (_ : Kd.R Kd.string 9 w w0.heap.size (fun k => k ≠ g) v out) (_ : spec_pzLook.f k l0 d b out = some r),
 Calls Tryz.prog 63 #[.slice A0 l0.length c0, .string b, .pointer (some ⟨g, 0, none⟩)] w fun e w' => e = .returned (.tuple #[]) ∧ ∃ v', w'.heap[g]? = some (.cells #[v'] 28 (0, 0)) ∧ Kd.R Kd.string 9 w' w0.heap.size (fun k => k ≠ g) v' r ∧ Below w0.heap.size w0 w' := by
 have HR0 := Aside0.mk hr0
 have HC0 := Aside0.mk hc0
 have HG := Aside0.mk hg
 have hu26 := Tryz.underlying46
 clear hr0 hc0 hg
 intro d
 induction d with
 | zero =>
  intro b v out r w hd hb hk ho h
  have HB := Aside0.mk hb
  have BK := Aside0.mk hk
  have HO := Aside0.mk ho
  have c1 : decide ((b.size : Int) < 4) = false := decide_eq_false (by omega)
  have c2 : decide (b.size < 4) = false := decide_eq_false (by omega)
  unfold spec_pzLook.f spec_pzLook.leaf at h
  by_cases hl : out.length < 4096
  rotate_left
  · exact none_ (if_neg hl) h
  rw [if_pos hl] at h
  obtain ⟨t, ht, h⟩ := Option.bind_eq_some_iff.mp h
  obtain rfl := Option.some.inj h
  have HL := Aside0.mk hl
  have HA := Aside0.mk (show Fn.anyO (spec_pzLook.bad k b) (l0.drop 0) = some t from ht)
  clear hd hb hk ho h hl ht
  go_enter Tryz.func63, Tryz.ntmps63
  go_wp2
  go_loopg [25] (l0.length + 1) (fun kq v25 w' => ∃ j : Nat, v25 = .int .i64 (j : Int) ∧ Aside0 (j + kq = l0.length + 1) ∧ Aside0 (Fn.anyO (spec_pzLook.bad k b) (l0.drop j) = some t) ∧ Aside0 (w'.heap[g]? = some (.cells #[v] 28 (0, 0))) ∧ Aside0 (Kd.R Kd.string 9 w' w0.heap.size (fun k => k ≠ g) v out) ∧ Aside0 (Below w0.heap.size w0 w'))
  case atStart => exact ⟨0, rfl, ⟨by omega⟩, HA, BK, HO, HB⟩
  case round =>
   clear HA BK HO HB
   obtain ⟨j, rfl, HJ, HA, BK, HO, HB⟩ := hrel
   by_cases c : j < l0.length
   · obtain ⟨e, he, hbb⟩ := Fn.anyO_drop (spec_pzLook.bad k b) l0 z46 j c t HA.out
     obtain ⟨f, hf, hfe⟩ := Option.map_eq_some_iff.mp (show (spec_pzFits.f k (rd_T46 l0 (j : Int)).f0 (rd_T46 l0 (j : Int)).f1 (rd_T46 l0 (j : Int)).f2 b).map (!·) = some e from he)
     have HF := Aside0.mk hf
     have HBB := Aside0.mk hbb
     clear he hf hbb HA
     obtain ⟨ad1, e1, hx0, hx1, hx2⟩ := at_T46 HR0.out (j : Int) (by omega) (by omega)
     cases e1
     simp only [Int.toNat_natCast] at hx0 hx1 hx2
     replace hx0 := (HB.out.cell (World.block_lt_of_cell? w0 _ hx0)).trans hx0
     replace hx1 := (HB.out.cell (World.block_lt_of_cell? w0 _ hx1)).trans hx1
     replace hx2 := (HB.out.cell (World.block_lt_of_cell? w0 _ hx2)).trans hx2
     have p1 : (0 ≤ (j : Int)) = True := eq_true (by omega)
     have q1 : ((j : Int) < (l0.length : Int)) = True := eq_true (by omega)
     have d1 : decide ((j : Int) < (l0.length : Int)) = true := decide_eq_true (by omega)
     have d2 : decide (j < l0.length) = true := decide_eq_true c
     have hl0 := (HR0.out).2.1
     cases f with
     | false =>
      subst hfe
      have ht : t = true := by
       rcases HBB.out with ⟨_, e⟩ | ⟨e, _⟩
       · exact e
       cases e
      subst ht
      go_wp2_with (first | (refine bx_ 8 #[.int .i64 0, .int .i64 0, .int .i64 0] 46 ?_; intro gb hg w12 hbox hb; have hcz0 : w12.cell? ⟨gb, 0, none⟩ = some (.int .i64 0) := (blk_cell hbox 0).trans rfl; have hcz1 : w12.cell? ⟨gb, 1, none⟩ = some (.int .i64 0) := (blk_cell hbox 1).trans rfl; have hcz2 : w12.cell? ⟨gb, 2, none⟩ = some (.int .i64 0) := (blk_cell hbox 2).trans rfl; have hfz0 := blk_frozen hbox 0; have hfz1 := blk_frozen hbox 1; have hfz2 := blk_frozen hbox 2; have HGB := Aside0.mk (show wr.heap.size ≤ gb by rw [hg]; exact Nat.le_refl _); have HBX := Aside0.mk hb; clear hb hbox hg) | (go_at_call 82; (with_reducible refine (spec_pzFits.calls k _ _ _ b false _ HF.out).mono ?_); rintro e w15 ⟨rfl, hb⟩; have HBY := Aside0.mk (below_step (below_set (below_set (below_set HBX.out HGB.out) HGB.out) HGB.out) hb); clear hb))
      (first | go_end0 | ((try simp only [Exit.inBlock, Exit.then]); refine bodyPost_ret (results_none rfl _ _ _) rfl ?_))
      exact ⟨rfl, v, blk_below BK.out HBY.out, Kd.R_below HO.out HBY.out, below_step HB.out HBY.out⟩
     | true =>
      subst hfe
      have ht := HBB.out
      go_wp2_with (first | (refine bx_ 8 #[.int .i64 0, .int .i64 0, .int .i64 0] 46 ?_; intro gb hg w12 hbox hb; have hcz0 : w12.cell? ⟨gb, 0, none⟩ = some (.int .i64 0) := (blk_cell hbox 0).trans rfl; have hcz1 : w12.cell? ⟨gb, 1, none⟩ = some (.int .i64 0) := (blk_cell hbox 1).trans rfl; have hcz2 : w12.cell? ⟨gb, 2, none⟩ = some (.int .i64 0) := (blk_cell hbox 2).trans rfl; have hfz0 := blk_frozen hbox 0; have hfz1 := blk_frozen hbox 1; have hfz2 := blk_frozen hbox 2; have HGB := Aside0.mk (show wr.heap.size ≤ gb by rw [hg]; exact Nat.le_refl _); have HBX := Aside0.mk hb; clear hb hbox hg) | (go_at_call 82; (with_reducible refine (spec_pzFits.calls k _ _ _ b true _ HF.out).mono ?_); rintro e w15 ⟨rfl, hb⟩; have HBY := Aside0.mk (below_step (below_set (below_set (below_set HBX.out HGB.out) HGB.out) HGB.out) hb); clear hb))
      go_roundg (gk - 1)
      case measure => have := HJ.out; omega
      case rel =>
       have hnx : Fn.anyO (spec_pzLook.bad k b) (l0.drop (j + 1)) = some t := by
        rcases HBB.out with ⟨e, _⟩ | ⟨_, h⟩
        · cases e
        exact h
       exact ⟨j + 1, by go_num, ⟨by have := HJ.out; omega⟩, ⟨hnx⟩, ⟨blk_below BK.out HBY.out⟩, ⟨Kd.R_below HO.out HBY.out⟩, ⟨below_step HB.out HBY.out⟩⟩
   have d1 : decide ((j : Int) < (l0.length : Int)) = false := decide_eq_false (by omega)
   have d2 : decide (j < l0.length) = false := decide_eq_false c
   have ht : t = false := by
    have h := HA.out
    rw [List.drop_eq_nil_of_le (by omega)] at h
    exact (Option.some.inj h).symm
   subst ht
   have hcell := blk_cell BK.out 0
   have hfz := blk_frozen BK.out 0
   go_wp2_with (first | ((with_reducible refine gate_builtin (b := .append) (xs := #[.tmp 37, .tmp 39]) rfl ?_); at_builtin; refine Kd.R_append Kd.string (w0 := w0) w0.heap.size rfl (.tmp 37) (.tmp 39) 28 9 (.string ByteArray.empty) 16 rfl Tryz.underlying28 info9 rfl (by decide) (by omega) v out b [.string b] (fun k => k ≠ g) (fun _ => False) rfl rfl ?aP (fun _ hk => hk.elim) ?aF ?aO ?aB ?aS ?aL ?_; (case aP => exact rfl); (case aF => exact fun k hk he => by have := blk_lt BK.out; omega); (case aO => exact HO.out); (case aB => exact HB.out); (case aS => exact HB.out.size); (case aL => have := HL.out; omega); intro v1 w4 ho hb hg hat; obtain ⟨Av, cv, rfl⟩ := Kd.R_slice ho; have e_ : (out ++ [b]).length = out.length + 1 := (by simp); rw [e_] at ho ⊢; clear e_; have HO3 := Aside0.mk ho; have HB3 := Aside0.mk hb; have BK3 := Aside0.mk (blk_grown BK.out hg (fun he => HO.out.1 _ he.symm rfl)); have hcell3 := blk_cell BK3.out 0; have hfz3 := blk_frozen BK3.out 0; clear ho hb hg hat))
   (first | go_end0 | ((try simp only [Exit.inBlock, Exit.then]); refine bodyPost_ret (results_none rfl _ _ _) rfl ?_))
   exact ⟨rfl, _, blk_put BK3.out 0 _ rfl, Kd.R_far HO3.out (fun k hk => hk) _, below_set HB3.out HG.out⟩
 | succ d ih =>
  intro b v out r w hd hb hk ho h
  have HB := Aside0.mk hb
  have BK := Aside0.mk hk
  have HO := Aside0.mk ho
  have IH := Aside0.mk ih
  have H := Aside0.mk (show spec_pzLook.dig (spec_pzLook.f k l0 d) k b (6 - 0) ((0 : Nat) : Int) out = some r from h)
  have c1 : decide ((b.size : Int) < 4) = true := decide_eq_true (by omega)
  have c2 : decide (b.size < 4) = true := decide_eq_true (by omega)
  have HD := Aside0.mk hd
  clear hb hk ho h ih hd
  go_enter Tryz.func63, Tryz.ntmps63
  go_wp2
  go_loopg [6] 7 (fun kq v6 w' => ∃ (i : Nat) (o : List ByteArray) (v : Value), v6 = .int .i64 (i : Int) ∧ Aside0 (i + kq = 7) ∧ Aside0 (spec_pzLook.dig (spec_pzLook.f k l0 d) k b (6 - i) (i : Int) o = some r) ∧ Aside0 (w'.heap[g]? = some (.cells #[v] 28 (0, 0))) ∧ Aside0 (Kd.R Kd.string 9 w' w0.heap.size (fun k => k ≠ g) v o) ∧ Aside0 (Below w0.heap.size w0 w'))
  case atStart => exact ⟨0, out, v, rfl, ⟨by omega⟩, H, BK, HO, HB⟩
  case round =>
   clear H BK HO HB
   obtain ⟨i, o, v, rfl, HI, HA, BK, HO, HB⟩ := hrel
   by_cases c : i < 6
   · have d1 : decide ((i : Int) ≤ 5) = true := decide_eq_true (by omega)
     have d2 : decide (i ≤ 5) = true := decide_eq_true (by omega)
     have h := HA.out
     rw [show 6 - i = (6 - (i + 1)) + 1 by omega] at h
     unfold spec_pzLook.dig at h
     obtain ⟨s, hs, h⟩ := Option.bind_eq_some_iff.mp h
     by_cases hz : b.size + s.size ≤ 4
     rotate_left
     · exact none_ (if_neg hz) h
     rw [if_pos hz] at h
     by_cases hz1 : s.size = 1
     rotate_left
     · exact none_ (if_neg hz1) h
     rw [if_pos hz1] at h
     obtain ⟨o2, ho2, h⟩ := Option.bind_eq_some_iff.mp h
     have HS := Aside0.mk hs
     have HF := Aside0.mk ho2
     have HA2 := Aside0.mk (show spec_pzLook.dig (spec_pzLook.f k l0 d) k b (6 - (i + 1)) ((i + 1 : Nat) : Int) o2 = some r from h)
     have HZ := Aside0.mk (show (b ++ s).size + d = 4 by have := HD.out; rw [ByteArray.size_append]; omega)
     have hsz : b.size + s.size ≤ 9223372036854775807 := by omega
     have z0 := eq_true hsz
     have z1 : decide (b.size + s.size ≤ 9223372036854775807) = true := decide_eq_true hsz
     have z2 : (9223372036854775807 < b.size + s.size) = False := eq_false (Nat.not_lt.2 hsz)
     have HC := Aside0.mk c
     clear HA h hs hz hz1 ho2 hsz c
     go_wp2_with (first | (go_at_call 67; (with_reducible refine (spec_l1Num.calls k (i : Int) s _ HS.out).mono ?_); rintro e w15 ⟨rfl, hb⟩; have HB2 := Aside0.mk (below_step HB.out hb); have BK2 := Aside0.mk (blk_below BK.out hb); have HO2 := Aside0.mk (Kd.R_below HO.out hb); clear hb) | (go_at_call 63; (with_reducible refine (IH.out (b ++ s) v o o2 _ HZ.out HB2.out BK2.out HO2.out HF.out).mono ?_); rintro e w16 ⟨rfl, v2, hk, ho, hb⟩; have HB3 := Aside0.mk hb; have BK3 := Aside0.mk hk; have HO3 := Aside0.mk ho; clear hb hk ho))
     go_roundg (gk - 1)
     case measure => have := HI.out; have := HC.out; omega
     case rel => exact ⟨i + 1, o2, v2, spec_pzLook.succv_ i (by have := HC.out; omega), ⟨by have := HI.out; have := HC.out; omega⟩, HA2, BK3, HO3, HB3⟩
   have d1 : decide ((i : Int) ≤ 5) = false := decide_eq_false (by omega)
   have d2 : decide (i ≤ 5) = false := decide_eq_false (by omega)
   have hr : o = r := by
    have h := HA.out
    rw [show 6 - i = 0 by omega] at h
    exact Option.some.inj h
   subst hr
   go_wp2
   (first | go_end0 | ((try simp only [Exit.inBlock, Exit.then]); refine bodyPost_ret (results_none rfl _ _ _) rfl ?_))
   exact ⟨rfl, v, BK.out, HO.out, HB.out⟩
theorem spec_pzAll.calls (k : Nat) (A0 : Option Addr) (c0 : Nat) (l0 : List (S46)) (r : List ByteArray) (w : World) (hr0 : Kd.C k46 w A0 l0.length l0) (hc0 : l0.length ≤ c0) (h : spec_pzAll.f k l0 = some r) :
 Calls Tryz.prog 40 #[.slice A0 l0.length c0] w fun e w' => ∃ v0_ : Value, e = .returned (v0_) ∧ Kd.R Kd.string 9 w' w.heap.size (fun _ => True) v0_ r ∧ Below w.heap.size w w' := by
 have HR0 := Aside0.mk hr0
 have HC0 := Aside0.mk hc0
 have H := Aside0.mk (show spec_pzLook.f k l0 4 ⟨#[]⟩ [] = some r from h)
 clear hr0 hc0 h
 go_enter Tryz.func40, Tryz.ntmps40
 go_wp2_with (first | (refine bx_ 3 #[.slice none 0 0] 28 ?_; intro gb hg w12 hbox hb; have HGB := Aside0.mk (show w.heap.size ≤ gb by rw [hg]; exact Nat.le_refl _); have BK := Aside0.mk hbox; have HB := Aside0.mk hb; clear hb hbox hg) | (go_at_call 63; (with_reducible refine (spec_pzLook.calls k A0 c0 l0 w gb HR0.out HC0.out HGB.out 4 ⟨#[]⟩ (.slice none 0 0) [] r _ rfl HB.out BK.out (Kd.R_nil _ _ _ _ _) H.out).mono ?_); rintro e w16 ⟨rfl, v2, hk, ho, hb⟩; have HB3 := Aside0.mk hb; have hcell := blk_cell hk 0; have HO3 := Aside0.mk ho; clear hb hk ho))
 go_ret
 exact ⟨_, rfl, Kd.R_mono HO3.out (fun _ _ => trivial), HB3.out⟩

/-! ### spec_Solutions: function 7 -/
def spec_Solutions.f (k : Nat) (l0_0 : List (S46)) : Option (List ByteArray × Bool) := (spec_pzGood.f k l0_0).bind fun t276 => (if t276 = true then ((spec_pzAll.f k l0_0).bind fun t277 => (some (t277, true))) else (some (([] : List ByteArray), false)))
theorem spec_Solutions.mono : ∀ a0 k, LeO (spec_Solutions.f k a0) (spec_Solutions.f (k + 1) a0) := by
 intro a0 k
 unfold spec_Solutions.f
 have m1_ := @spec_pzAll.mono
 have m2_ := @spec_pzGood.mono
 exact zM_
theorem spec_Solutions.calls (k : Nat) (A0_0 : Option Addr) (c0_0 : Nat) (l0_0 : List (S46)) (r1 : List ByteArray) (r2 : Bool) (w : World) (hr0_0 : Kd.C k46 w A0_0 l0_0.length l0_0) (hc0_0 : l0_0.length ≤ c0_0) (h : spec_Solutions.f k l0_0 = some (r1, r2)) :
 Calls Tryz.prog 7 #[.agg #[.slice A0_0 l0_0.length c0_0]] w fun e w' => ∃ v0_ : Value, e = .returned (.tuple #[v0_, .bool r2]) ∧ Kd.R Kd.string 9 w' w.heap.size (fun _ => True) v0_ r1 ∧ Below w.heap.size w w' := by
 have hu26 := Tryz.underlying26
 have HR0_0 := Aside0.mk hr0_0
 have HC0_0 := Aside0.mk hc0_0
 clear hr0_0 hc0_0
 have HB := Aside0.mk (Below.refl w.heap.size w)
 unfold spec_Solutions.f at h
 have H := h
 clear h
 replace H := bd_ H; obtain ⟨t276, A2, H⟩ := H
 by_cases c3 : t276 = true
 · subst c3
   rw [if_pos rfl] at H
   replace H := bd_ H; obtain ⟨t277, A4, H⟩ := H
   simp only [Option.some.injEq, Prod.mk.injEq] at H
   obtain ⟨rfl, rfl⟩ := H
   go_enter Tryz.func7, Tryz.ntmps7
   go_wp2_with (first | (refine bx_ 1 #[.slice A0_0 l0_0.length c0_0] 26 ?_; intro gb275 hg w5 hbox hb; have BK275 := Aside0.mk (hbox); have GW275 : Aside0 (w.heap.size ≤ gb275) := bs_ hg zB_; have GE275 := GW275; replace HB := Aside0.mk (below_step zB_ hb); clear hb hbox hg; have hcz6_0 : w5.cell? ⟨gb275, 0, none⟩ = some (.slice A0_0 l0_0.length c0_0) := (blk_cell BK275.out 0).trans rfl; have hfz6_0 := blk_frozen BK275.out 0) | ((with_reducible refine gc_ 39 rfl ?_); refine gL_ 5 Tryz.func39 #[.agg #[.slice A0_0 l0_0.length c0_0]] ?_; (with_reducible refine (spec_pzGood.calls k _ _ l0_0 true _ ?side1 ?side2 A2.out).mono ?_); (case side1 => exact zc10_0_); (case side2 => exact HC0_0.out); rintro e w7 ⟨rfl, hb⟩; refine ⟨_, rfl, ?_⟩; replace BK275 := bb_ BK275 z10_10_ hb; replace HB := Aside0.mk (below_step z10_6_ hb); have hcz8_0 : w7.cell? ⟨gb275, 0, none⟩ = some (.slice A0_0 l0_0.length c0_0) := (blk_cell BK275.out 0).trans rfl; have hfz8_0 := blk_frozen BK275.out 0) | ((with_reducible refine gc_ 40 rfl ?_); refine gL_ 9 Tryz.func40 #[.slice A0_0 l0_0.length c0_0] ?_; (with_reducible refine (spec_pzAll.calls k _ _ l0_0 t277 _ ?side1 ?side2 A4.out).mono ?_); (case side1 => exact zc10_0_); (case side2 => exact HC0_0.out); rintro e w9 ⟨v278, rfl, ho0, hb⟩; refine ⟨_, rfl, ?_⟩; have HO279 := Aside0.mk (Kd.R_lower ho0 (below_size z10_6_)); replace BK275 := bb_ BK275 z10_10_ hb; replace HB := Aside0.mk (below_step z10_6_ hb)))
   go_ret2
   exact ⟨_, zs10_9, by exact rr_ HO279.out, zs10_18⟩
 replace H := bf_ c3 H; obtain ⟨rfl, H⟩ := H
 simp only [Option.some.injEq, Prod.mk.injEq] at H
 obtain ⟨rfl, rfl⟩ := H
 go_enter Tryz.func7, Tryz.ntmps7
 go_wp2_with (first | (refine bx_ 1 #[.slice A0_0 l0_0.length c0_0] 26 ?_; intro gb275 hg w10 hbox hb; have BK275 := Aside0.mk (hbox); have GW275 : Aside0 (w.heap.size ≤ gb275) := bs_ hg zB_; have GE275 := GW275; replace HB := Aside0.mk (below_step zB_ hb); clear hb hbox hg; have hcz11_0 : w10.cell? ⟨gb275, 0, none⟩ = some (.slice A0_0 l0_0.length c0_0) := (blk_cell BK275.out 0).trans rfl; have hfz11_0 := blk_frozen BK275.out 0) | ((with_reducible refine gc_ 39 rfl ?_); refine gL_ 5 Tryz.func39 #[.agg #[.slice A0_0 l0_0.length c0_0]] ?_; (with_reducible refine (spec_pzGood.calls k _ _ l0_0 false _ ?side1 ?side2 A2.out).mono ?_); (case side1 => exact zc10_0_); (case side2 => exact HC0_0.out); rintro e w12 ⟨rfl, hb⟩; refine ⟨_, rfl, ?_⟩; replace BK275 := bb_ BK275 z10_10_ hb; replace HB := Aside0.mk (below_step z10_6_ hb)))
 go_ret2
 exact ⟨_, zs10_9, zs10_13, zs10_18⟩

/-! ### impl_CountSolutions: function 8 -/
def impl_CountSolutions.f (k : Nat) (l0_0 : List (S46)) : Option (Int × Bool) := (impl_Solutions.f k l0_0).bind fun bt281 => (some ((bt281.1.length : Int), bt281.2))
theorem impl_CountSolutions.mono : ∀ a0 k, LeO (impl_CountSolutions.f k a0) (impl_CountSolutions.f (k + 1) a0) := by
 intro a0 k
 unfold impl_CountSolutions.f
 have m1_ := @impl_Solutions.mono
 exact zM_
theorem impl_CountSolutions.calls (k : Nat) (A0_0 : Option Addr) (c0_0 : Nat) (l0_0 : List (S46)) (r1 : Int) (r2 : Bool) (w : World) (hr0_0 : Kd.C k46 w A0_0 l0_0.length l0_0) (hc0_0 : l0_0.length ≤ c0_0) (h : impl_CountSolutions.f k l0_0 = some (r1, r2)) :
 Calls Tryz.prog 8 #[.agg #[.slice A0_0 l0_0.length c0_0]] w fun e w' => e = .returned (.tuple #[.int .i64 r1, .bool r2]) ∧ Below w.heap.size w w' := by
 have hu26 := Tryz.underlying26
 have HR0_0 := Aside0.mk hr0_0
 have HC0_0 := Aside0.mk hc0_0
 clear hr0_0 hc0_0
 have HB := Aside0.mk (Below.refl w.heap.size w)
 unfold impl_CountSolutions.f at h
 have H := h
 clear h
 replace H := bd_ H; obtain ⟨⟨t281, t284⟩, A2, H⟩ := H
 dsimp only at H
 simp only [Option.some.injEq, Prod.mk.injEq] at H
 obtain ⟨rfl, rfl⟩ := H
 go_enter Tryz.func8, Tryz.ntmps8
 go_wp2_with (first | (refine bx_ 1 #[.slice A0_0 l0_0.length c0_0] 26 ?_; intro gb280 hg w3 hbox hb; have BK280 := Aside0.mk (hbox); have GW280 : Aside0 (w.heap.size ≤ gb280) := bs_ hg zB_; have GE280 := GW280; replace HB := Aside0.mk (below_step zB_ hb); clear hb hbox hg; have hcz4_0 : w3.cell? ⟨gb280, 0, none⟩ = some (.slice A0_0 l0_0.length c0_0) := (blk_cell BK280.out 0).trans rfl; have hfz4_0 := blk_frozen BK280.out 0) | ((with_reducible refine gc_ 6 rfl ?_); refine gL_ 8 Tryz.func6 #[.agg #[.slice A0_0 l0_0.length c0_0]] ?_; (with_reducible refine (impl_Solutions.calls k _ _ l0_0 t281 t284 _ ?side1 ?side2 A2.out).mono ?_); (case side1 => exact zc10_0_); (case side2 => exact HC0_0.out); rintro e w5 ⟨v282, rfl, ho0, hb⟩; refine ⟨_, rfl, ?_⟩; have HO283 := Aside0.mk (Kd.R_lower ho0 (below_size (by repeat (first | (with_reducible first | exact HB.out | apply below_alloc | apply pw_below_drewN | apply below_drew1 | refine below_set ?_ GE280.out) | exact HB.out)))); replace BK280 := bb_ BK280 (b_ BK280.out) hb; replace HB := Aside0.mk (below_step (by repeat (first | (with_reducible first | exact HB.out | apply below_alloc | apply pw_below_drewN | apply below_drew1 | refine below_set ?_ GE280.out) | exact HB.out)) hb); obtain ⟨Ao6, co6, eo6⟩ := Kd.R_slice HO283.out; subst eo6))
 go_ret2
 exact ⟨zR_, by repeat (first | (with_reducible first | exact HB.out | apply below_alloc | apply pw_below_drewN | apply below_drew1 | refine below_set ?_ GE280.out) | exact HB.out)⟩

/-! ### spec_CountSolutions: function 9 -/
def spec_CountSolutions.f (k : Nat) (l0_0 : List (S46)) : Option (Int × Bool) := (spec_pzGood.f k l0_0).bind fun t286 => (if t286 = true then ((spec_pzAll.f k l0_0).bind fun t287 => (some ((t287.length : Int), true))) else (some (0, false)))
theorem spec_CountSolutions.mono : ∀ a0 k, LeO (spec_CountSolutions.f k a0) (spec_CountSolutions.f (k + 1) a0) := by
 intro a0 k
 unfold spec_CountSolutions.f
 have m1_ := @spec_pzAll.mono
 have m2_ := @spec_pzGood.mono
 exact zM_
theorem spec_CountSolutions.calls (k : Nat) (A0_0 : Option Addr) (c0_0 : Nat) (l0_0 : List (S46)) (r1 : Int) (r2 : Bool) (w : World) (hr0_0 : Kd.C k46 w A0_0 l0_0.length l0_0) (hc0_0 : l0_0.length ≤ c0_0) (h : spec_CountSolutions.f k l0_0 = some (r1, r2)) :
 Calls Tryz.prog 9 #[.agg #[.slice A0_0 l0_0.length c0_0]] w fun e w' => e = .returned (.tuple #[.int .i64 r1, .bool r2]) ∧ Below w.heap.size w w' := by
 have hu26 := Tryz.underlying26
 have HR0_0 := Aside0.mk hr0_0
 have HC0_0 := Aside0.mk hc0_0
 clear hr0_0 hc0_0
 have HB := Aside0.mk (Below.refl w.heap.size w)
 unfold spec_CountSolutions.f at h
 have H := h
 clear h
 replace H := bd_ H; obtain ⟨t286, A2, H⟩ := H
 by_cases c3 : t286 = true
 · subst c3
   rw [if_pos rfl] at H
   replace H := bd_ H; obtain ⟨t287, A4, H⟩ := H
   simp only [Option.some.injEq, Prod.mk.injEq] at H
   obtain ⟨rfl, rfl⟩ := H
   go_enter Tryz.func9, Tryz.ntmps9
   go_wp2_with (first | (refine bx_ 1 #[.slice A0_0 l0_0.length c0_0] 26 ?_; intro gb285 hg w5 hbox hb; have BK285 := Aside0.mk (hbox); have GW285 : Aside0 (w.heap.size ≤ gb285) := bs_ hg zB_; have GE285 := GW285; replace HB := Aside0.mk (below_step zB_ hb); clear hb hbox hg; have hcz6_0 : w5.cell? ⟨gb285, 0, none⟩ = some (.slice A0_0 l0_0.length c0_0) := (blk_cell BK285.out 0).trans rfl; have hfz6_0 := blk_frozen BK285.out 0) | ((with_reducible refine gc_ 39 rfl ?_); refine gL_ 5 Tryz.func39 #[.agg #[.slice A0_0 l0_0.length c0_0]] ?_; (with_reducible refine (spec_pzGood.calls k _ _ l0_0 true _ ?side1 ?side2 A2.out).mono ?_); (case side1 => exact zc10_0_); (case side2 => exact HC0_0.out); rintro e w7 ⟨rfl, hb⟩; refine ⟨_, rfl, ?_⟩; replace BK285 := bb_ BK285 z10_11_ hb; replace HB := Aside0.mk (below_step z10_7_ hb); have hcz8_0 : w7.cell? ⟨gb285, 0, none⟩ = some (.slice A0_0 l0_0.length c0_0) := (blk_cell BK285.out 0).trans rfl; have hfz8_0 := blk_frozen BK285.out 0) | ((with_reducible refine gc_ 40 rfl ?_); refine gL_ 9 Tryz.func40 #[.slice A0_0 l0_0.length c0_0] ?_; (with_reducible refine (spec_pzAll.calls k _ _ l0_0 t287 _ ?side1 ?side2 A4.out).mono ?_); (case side1 => exact zc10_0_); (case side2 => exact HC0_0.out); rintro e w9 ⟨v288, rfl, ho0, hb⟩; refine ⟨_, rfl, ?_⟩; have HO289 := Aside0.mk (Kd.R_lower ho0 (below_size z10_7_)); replace BK285 := bb_ BK285 z10_11_ hb; replace HB := Aside0.mk (below_step z10_7_ hb); obtain ⟨Ao10, co10, eo10⟩ := Kd.R_slice HO289.out; subst eo10))
   go_ret2
   exact ⟨zR_, zs10_19⟩
 replace H := bf_ c3 H; obtain ⟨rfl, H⟩ := H
 simp only [Option.some.injEq, Prod.mk.injEq] at H
 obtain ⟨rfl, rfl⟩ := H
 go_enter Tryz.func9, Tryz.ntmps9
 go_wp2_with (first | (refine bx_ 1 #[.slice A0_0 l0_0.length c0_0] 26 ?_; intro gb285 hg w11 hbox hb; have BK285 := Aside0.mk (hbox); have GW285 : Aside0 (w.heap.size ≤ gb285) := bs_ hg zB_; have GE285 := GW285; replace HB := Aside0.mk (below_step zB_ hb); clear hb hbox hg; have hcz12_0 : w11.cell? ⟨gb285, 0, none⟩ = some (.slice A0_0 l0_0.length c0_0) := (blk_cell BK285.out 0).trans rfl; have hfz12_0 := blk_frozen BK285.out 0) | ((with_reducible refine gc_ 39 rfl ?_); refine gL_ 5 Tryz.func39 #[.agg #[.slice A0_0 l0_0.length c0_0]] ?_; (with_reducible refine (spec_pzGood.calls k _ _ l0_0 false _ ?side1 ?side2 A2.out).mono ?_); (case side1 => exact zc10_0_); (case side2 => exact HC0_0.out); rintro e w13 ⟨rfl, hb⟩; refine ⟨_, rfl, ?_⟩; replace BK285 := bb_ BK285 z10_11_ hb; replace HB := Aside0.mk (below_step z10_7_ hb)))
 go_ret2
 exact ⟨zR_, zs10_19⟩

/-! ### impl_FirstSolution: function 10 -/
def impl_FirstSolution.f (k : Nat) (l0_0 : List (S46)) : Option (ByteArray × Bool) := (impl_Solutions.f k l0_0).bind fun bt291 => (if (bt291.1.length : Int) = 0 then (some ((⟨#[]⟩ : ByteArray), false)) else (if 0 < (bt291.1.length : Int) then (some (rdOf ByteArray.empty bt291.1 0, true)) else (none)))
theorem impl_FirstSolution.mono : ∀ a0 k, LeO (impl_FirstSolution.f k a0) (impl_FirstSolution.f (k + 1) a0) := by
 intro a0 k
 unfold impl_FirstSolution.f
 have m1_ := @impl_Solutions.mono
 exact zM_
theorem impl_FirstSolution.calls (k : Nat) (A0_0 : Option Addr) (c0_0 : Nat) (l0_0 : List (S46)) (r1 : ByteArray) (r2 : Bool) (w : World) (hr0_0 : Kd.C k46 w A0_0 l0_0.length l0_0) (hc0_0 : l0_0.length ≤ c0_0) (h : impl_FirstSolution.f k l0_0 = some (r1, r2)) :
 Calls Tryz.prog 10 #[.agg #[.slice A0_0 l0_0.length c0_0]] w fun e w' => e = .returned (.tuple #[.string r1, .bool r2]) ∧ Below w.heap.size w w' := by
 have hu26 := Tryz.underlying26
 have HR0_0 := Aside0.mk hr0_0
 have HC0_0 := Aside0.mk hc0_0
 clear hr0_0 hc0_0
 have HB := Aside0.mk (Below.refl w.heap.size w)
 unfold impl_FirstSolution.f at h
 have H := h
 clear h
 replace H := bd_ H; obtain ⟨⟨t291, t294⟩, A2, H⟩ := H
 dsimp only at H
 by_cases c3 : (t291.length : Int) = 0
 · obtain ⟨H, c3b0, c3b1⟩ := ep_ c3 H
   clear c3
   simp only [Option.some.injEq, Prod.mk.injEq] at H
   obtain ⟨rfl, rfl⟩ := H
   go_enter Tryz.func10, Tryz.ntmps10
   go_wp2_with (first | (refine bx_ 1 #[.slice A0_0 l0_0.length c0_0] 26 ?_; intro gb290 hg w4 hbox hb; have BK290 := Aside0.mk (hbox); have GW290 : Aside0 (w.heap.size ≤ gb290) := bs_ hg zB_; have GE290 := GW290; replace HB := Aside0.mk (below_step zB_ hb); clear hb hbox hg; have hcz5_0 : w4.cell? ⟨gb290, 0, none⟩ = some (.slice A0_0 l0_0.length c0_0) := (blk_cell BK290.out 0).trans rfl; have hfz5_0 := blk_frozen BK290.out 0) | ((with_reducible refine gc_ 6 rfl ?_); refine gL_ 8 Tryz.func6 #[.agg #[.slice A0_0 l0_0.length c0_0]] ?_; (with_reducible refine (impl_Solutions.calls k _ _ l0_0 t291 t294 _ ?side1 ?side2 A2.out).mono ?_); (case side1 => exact zc10_0_); (case side2 => exact HC0_0.out); rintro e w6 ⟨v292, rfl, ho0, hb⟩; refine ⟨_, rfl, ?_⟩; have HO293 := Aside0.mk (Kd.R_lower ho0 (below_size z10_8_)); replace BK290 := bb_ BK290 (b_ BK290.out) hb; replace HB := Aside0.mk (below_step z10_8_ hb); obtain ⟨Ao7, co7, eo7⟩ := Kd.R_slice HO293.out; subst eo7))
   go_ret2
   exact ⟨zR_, zs10_20⟩
 obtain ⟨H, c3b0, c3b1⟩ := en_ c3 H
 have c3b2 : ¬ (t291 = []) := fun h_ => c3 (by rw [h_]; rfl)
 replace H := gd_ H; obtain ⟨c8, H⟩ := H
 have c8b0 : decide (0 < (t291.length : Int)) = true := decide_eq_true c8
 have c8b1 : decide (0 < t291.length) = true := decide_eq_true (by omega)
 clear c8
 simp only [Option.some.injEq, Prod.mk.injEq] at H
 obtain ⟨rfl, rfl⟩ := H
 go_enter Tryz.func10, Tryz.ntmps10
 go_wp2_with (first | (refine bx_ 1 #[.slice A0_0 l0_0.length c0_0] 26 ?_; intro gb290 hg w9 hbox hb; have BK290 := Aside0.mk (hbox); have GW290 : Aside0 (w.heap.size ≤ gb290) := bs_ hg zB_; have GE290 := GW290; replace HB := Aside0.mk (below_step zB_ hb); clear hb hbox hg; have hcz10_0 : w9.cell? ⟨gb290, 0, none⟩ = some (.slice A0_0 l0_0.length c0_0) := (blk_cell BK290.out 0).trans rfl; have hfz10_0 := blk_frozen BK290.out 0) | ((with_reducible refine gc_ 6 rfl ?_); refine gL_ 8 Tryz.func6 #[.agg #[.slice A0_0 l0_0.length c0_0]] ?_; (with_reducible refine (impl_Solutions.calls k _ _ l0_0 t291 t294 _ ?side1 ?side2 A2.out).mono ?_); (case side1 => exact zc10_0_); (case side2 => exact HC0_0.out); rintro e w11 ⟨v292, rfl, ho0, hb⟩; refine ⟨_, rfl, ?_⟩; have HO293 := Aside0.mk (Kd.R_lower ho0 (below_size z10_8_)); replace BK290 := bb_ BK290 (b_ BK290.out) hb; replace HB := Aside0.mk (below_step z10_8_ hb); obtain ⟨Ao12, co12, eo12⟩ := Kd.R_slice HO293.out; subst eo12; have p295 : 0 ≤ (0 : Int) := (by omega); have q295 : 0 < (t291.length : Int) := of_decide_eq_true zS_; obtain ⟨ad295, e295, hx295_0⟩ := Kd.at_string (Kd.R_reads' HO293.out).2.2 0 p295 q295; cases e295; have qi295 : (0 < t291.length) = True := eq_true (by omega); (try rw [show ((0 : Int)).toNat = 0 from rfl] at hx295_0); (try rw [Addr.add_zero'] at hx295_0); replace p295 := eq_true p295; replace q295 := eq_true q295))
 go_ret2
 exact ⟨zR_, zs10_20⟩

end Go.Proofs.YtmfbjhkhgkphcaaGreatDoor.PFnTicketsGuessed

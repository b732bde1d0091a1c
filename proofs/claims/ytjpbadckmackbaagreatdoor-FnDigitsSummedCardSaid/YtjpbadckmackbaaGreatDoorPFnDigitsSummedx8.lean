-- Laid by this session's program gprint.py over the kit's print.
import Derived.Test.YtjpbadckmackbaaGreatDoorPFnDigitsSummedx0
import Derived.Test.YtjpbadckmackbaaGreatDoorPFnDigitsSummedx1
import Derived.Test.YtjpbadckmackbaaGreatDoorPFnDigitsSummedx2
import Derived.Test.YtjpbadckmackbaaGreatDoorPFnDigitsSummedx6
import Derived.Test.YtjpbadckmackbaaGreatDoorPFnDigitsSummedx7
namespace Go.Proofs.YtjpbadckmackbaaGreatDoor.PFnDigitsSummed
open Go.RowKit Go.Proofs.YtjpbadckmackbaaGreatDoorW.PrintWords Go.Proofs.YtjpbadckmackbaaGreatDoorW.PrintLast Go.Proofs.YtjpbadckmackbaaGreatDoorW.PrintMore
attribute [local go_sem] max2_int min2_int max_two min_two max_three min_three max_four min_four   -- for this text's walks alone
set_option linter.unusedVariables false
set_option linter.unusedSimpArgs false
theorem z8_0_ {p : Prop} (h : p := by (try simp only [List.map_toArray, List.map_cons, List.map_nil]); first | done | rfl | (simp only [List.length_drop, List.length_take]; rfl)) : p := h
theorem z8_1_ {p : Prop} (h : p := by repeat (first | (with_reducible first | exact HB.out | apply below_alloc | apply pw_below_drewN | apply below_drew1) | exact HB.out)) : p := h
theorem z8_2_ {p : Prop} (h : p := by first | rfl | (simp; done) | (simp [*]; done)) : p := h

/-! ### impl_CounterShows: function 28 -/
-- behind 54 48 31 47
def impl_CounterShows.p (k : Nat) (d m : Int) (n : Int) : Option Bool := (impl_without.f k n d).bind fun t => some (decide (t ≥ m))
def impl_CounterShows.f (k : Nat) (a0 a1 : Int) : Option (Int × Bool) := (impl_within.f a0 1 1000000).bind fun t1 => (if t1 = true then ((impl_isDigit.f a1).bind fun t2 => (if t2 = true then ((impl_least.go (impl_CounterShows.p k a1 a0) k 1 (wrap64 (1000000000000 + 1))).bind fun v => some (v, true)) else some (0, false))) else some (0, false))
theorem impl_CounterShows.mono : ∀ a0 a1 k, LeO (impl_CounterShows.f k a0 a1) (impl_CounterShows.f (k + 1) a0 a1) := by
 intro a0 a1 k
 unfold impl_CounterShows.f
 exact LeO.bind (LeO.refl _) (fun _ => LeO.ite (LeO.bind (LeO.refl _) (fun _ => LeO.ite (LeO.bind (impl_least.go_mono (fun x => LeO.bind (impl_without.mono _ _ _) (fun _ => LeO.refl _)) _ _ _) (fun _ => LeO.refl _)) (LeO.refl _))) (LeO.refl _))
set_option maxHeartbeats 8000000 in
set_option maxRecDepth 100000 in
theorem impl_CounterShows_1.calls (k : Nat) (g g2 : Nat) (d m n : Int) (t : Bool) (w : World) (hT : Shelf.TabOk w) (hc : w.heap[g]? = some (.cells #[.int .i64 d] 3 (0, 0))) (hc2 : w.heap[g2]? = some (.cells #[.int .i64 m] 3 (0, 0))) (h : impl_CounterShows.p k d m n = some t) :
 Calls Tryz.prog 55 #[.int .i64 n, .pointer (some ⟨g, 0, none⟩), .pointer (some ⟨g2, 0, none⟩)] w fun e w' => e = .returned (.bool t) ∧ Below w.heap.size w w' := by
 have hcell : w.cell? ⟨g, 0, none⟩ = some (.int .i64 d) := (blk_cell hc 0).trans rfl
 have hcell2 : w.cell? ⟨g2, 0, none⟩ = some (.int .i64 m) := (blk_cell hc2 0).trans rfl
 unfold impl_CounterShows.p at h
 obtain ⟨v, hv, h⟩ := Option.bind_eq_some_iff.mp h
 have ht : decide (v ≥ m) = t := Option.some.inj h
 subst ht
 have HV := Aside0.mk hv
 have HT := Aside0.mk hT
 have HC2 := Aside0.mk hc2
 have HB := Aside0.mk (Below.refl w.heap.size w)
 clear h hv hc hc2 hT
 go_enter Tryz.func55, Tryz.ntmps55
 go_upto_region 1 with fail
 go_region_with (first | (go_at_call 48; (with_reducible refine (impl_without.calls k n d v _ (Shelf.TabOk.below HT.out (by repeat (first | exact HB.out | apply pw_below_drewN | apply below_drew1))) HV.out).mono ?_); rintro e w1 ⟨rfl, hb⟩; have n0_ := Aside0.mk (below_step (by repeat (first | exact HB.out | apply pw_below_drewN | apply below_drew1)) hb); clear HB; have HB := n0_; clear n0_ hb; have hcell3 : w1.cell? ⟨g2, 0, none⟩ = some (.int .i64 m) := (blk_cell (blk_below HC2.out HB.out) 0).trans rfl))
 all_goals (go_wp2; go_ret; exact ⟨rfl, by repeat (first | exact HB.out | apply pw_below_drewN | apply below_drew1)⟩)
set_option maxHeartbeats 8000000 in
set_option maxRecDepth 100000 in
theorem impl_CounterShows.calls (k : Nat) (a0 : Int) (a1 : Int) (r1 : Int) (r2 : Bool) (w : World) (hT : Shelf.TabOk w) (h : impl_CounterShows.f k a0 a1 = some (r1, r2)) :
 Calls Tryz.prog 28 #[.int .i64 a0, .int .i64 a1] w fun e w' => e = .returned (.tuple #[.int .i64 r1, .bool r2]) ∧ Below w.heap.size w w' := by
 have HT := Aside0.mk hT
 clear hT
 have HB := Aside0.mk (Below.refl w.heap.size w)
 unfold impl_CounterShows.f at h
 obtain ⟨t1, h1, h⟩ := Option.bind_eq_some_iff.mp h
 have A1 := Aside0.mk h1
 clear h1
 cases t1 with
 | false =>
  rw [if_neg (by decide)] at h
  simp only [Option.some.injEq, Prod.mk.injEq] at h
  obtain ⟨rfl, rfl⟩ := h
  go_enter Tryz.func28, Tryz.ntmps28
  go_wp2_with (first | ((with_reducible refine gate_dst (N := 2) rfl ?_); refine box_event ?hg (N := 2) ?hd (cs := #[.int .i64 a0]) (t := 3) ?hr ?_; (case hd => rfl); (case hg => rfl); (case hr => first | (go_simp; done) | (go_simp; rfl)); intro gb2 hg w2 hbox hb; have n0_ := Aside0.mk (below_step HB.out hb); have BK2 := Aside0.mk hbox; clear HB; have HB := n0_; clear n0_; clear hb hbox hg; have hcell2 : w2.cell? ⟨gb2, 0, none⟩ = some (.int .i64 a0) := (blk_cell BK2.out 0).trans rfl) | ((with_reducible refine gate_dst (N := 3) rfl ?_); refine box_event ?hg (N := 3) ?hd (cs := #[.int .i64 a1]) (t := 3) ?hr ?_; (case hd => rfl); (case hg => rfl); (case hr => first | (go_simp; done) | (go_simp; rfl)); intro gb3 hg w3 hbox hb; have n0_ := Aside0.mk (below_step HB.out hb); have BK3 := Aside0.mk hbox; clear HB; have HB := n0_; clear n0_; have m2_ := Aside0.mk (blk_below BK2.out hb); have NB2_3 := Aside0.mk ((by rw [hg]; exact Nat.ne_of_lt (blk_lt BK2.out) : gb2 ≠ gb3)); clear BK2; have BK2 := m2_; clear m2_; have hcell2 : w3.cell? ⟨gb2, 0, none⟩ = some (.int .i64 a0) := (blk_cell BK2.out 0).trans rfl; clear hb hbox hg; have hcell3 : w3.cell? ⟨gb3, 0, none⟩ = some (.int .i64 a1) := (blk_cell BK3.out 0).trans rfl) | (go_at_call 31; (with_reducible refine (impl_within.calls a0 1 1000000 false _ A1.out).mono ?_); rintro e w' ⟨rfl, ⟨nd, rfl⟩⟩))
  go_ret2
  exact ⟨rfl, by repeat (first | (with_reducible first | exact HB.out | apply below_alloc | apply pw_below_drewN | apply below_drew1) | exact HB.out)⟩
 | true =>
  rw [if_pos rfl] at h
  obtain ⟨t2, h2, h⟩ := Option.bind_eq_some_iff.mp h
  have A2 := Aside0.mk h2
  clear h2
  cases t2 with
  | false =>
   rw [if_neg (by decide)] at h
   simp only [Option.some.injEq, Prod.mk.injEq] at h
   obtain ⟨rfl, rfl⟩ := h
   go_enter Tryz.func28, Tryz.ntmps28
   go_wp2_with (first | ((with_reducible refine gate_dst (N := 2) rfl ?_); refine box_event ?hg (N := 2) ?hd (cs := #[.int .i64 a0]) (t := 3) ?hr ?_; (case hd => rfl); (case hg => rfl); (case hr => first | (go_simp; done) | (go_simp; rfl)); intro gb2 hg w2 hbox hb; have n0_ := Aside0.mk (below_step HB.out hb); have BK2 := Aside0.mk hbox; clear HB; have HB := n0_; clear n0_; clear hb hbox hg; have hcell2 : w2.cell? ⟨gb2, 0, none⟩ = some (.int .i64 a0) := (blk_cell BK2.out 0).trans rfl) | ((with_reducible refine gate_dst (N := 3) rfl ?_); refine box_event ?hg (N := 3) ?hd (cs := #[.int .i64 a1]) (t := 3) ?hr ?_; (case hd => rfl); (case hg => rfl); (case hr => first | (go_simp; done) | (go_simp; rfl)); intro gb3 hg w3 hbox hb; have n0_ := Aside0.mk (below_step HB.out hb); have BK3 := Aside0.mk hbox; clear HB; have HB := n0_; clear n0_; have m2_ := Aside0.mk (blk_below BK2.out hb); have NB2_3 := Aside0.mk ((by rw [hg]; exact Nat.ne_of_lt (blk_lt BK2.out) : gb2 ≠ gb3)); clear BK2; have BK2 := m2_; clear m2_; have hcell2 : w3.cell? ⟨gb2, 0, none⟩ = some (.int .i64 a0) := (blk_cell BK2.out 0).trans rfl; clear hb hbox hg; have hcell3 : w3.cell? ⟨gb3, 0, none⟩ = some (.int .i64 a1) := (blk_cell BK3.out 0).trans rfl) | (go_at_call 31; (with_reducible refine (impl_within.calls a0 1 1000000 true _ A1.out).mono ?_); rintro e w' ⟨rfl, ⟨nd, rfl⟩⟩) | (go_at_call 47; (with_reducible refine (impl_isDigit.calls a1 false _ A2.out).mono ?_); rintro e w' ⟨rfl, ⟨nd, rfl⟩⟩))
   go_ret2
   exact ⟨rfl, by repeat (first | (with_reducible first | exact HB.out | apply below_alloc | apply pw_below_drewN | apply below_drew1) | exact HB.out)⟩
  | true =>
   rw [if_pos rfl] at h
   obtain ⟨v, h3, h⟩ := Option.bind_eq_some_iff.mp h
   have A3 := Aside0.mk h3
   clear h3
   simp only [Option.some.injEq, Prod.mk.injEq] at h
   obtain ⟨rfl, rfl⟩ := h
   go_enter Tryz.func28, Tryz.ntmps28
   go_wp2_with (first | ((with_reducible refine gate_dst (N := 2) rfl ?_); refine box_event ?hg (N := 2) ?hd (cs := #[.int .i64 a0]) (t := 3) ?hr ?_; (case hd => rfl); (case hg => rfl); (case hr => first | (go_simp; done) | (go_simp; rfl)); intro gb2 hg w2 hbox hb; have n0_ := Aside0.mk (below_step HB.out hb); have BK2 := Aside0.mk hbox; clear HB; have HB := n0_; clear n0_; clear hb hbox hg; have hcell2 : w2.cell? ⟨gb2, 0, none⟩ = some (.int .i64 a0) := (blk_cell BK2.out 0).trans rfl) | ((with_reducible refine gate_dst (N := 3) rfl ?_); refine box_event ?hg (N := 3) ?hd (cs := #[.int .i64 a1]) (t := 3) ?hr ?_; (case hd => rfl); (case hg => rfl); (case hr => first | (go_simp; done) | (go_simp; rfl)); intro gb3 hg w3 hbox hb; have n0_ := Aside0.mk (below_step HB.out hb); have BK3 := Aside0.mk hbox; clear HB; have HB := n0_; clear n0_; have m2_ := Aside0.mk (blk_below BK2.out hb); have NB2_3 := Aside0.mk ((by rw [hg]; exact Nat.ne_of_lt (blk_lt BK2.out) : gb2 ≠ gb3)); clear BK2; have BK2 := m2_; clear m2_; have hcell2 : w3.cell? ⟨gb2, 0, none⟩ = some (.int .i64 a0) := (blk_cell BK2.out 0).trans rfl; clear hb hbox hg; have hcell3 : w3.cell? ⟨gb3, 0, none⟩ = some (.int .i64 a1) := (blk_cell BK3.out 0).trans rfl) | (go_at_call 31; (with_reducible refine (impl_within.calls a0 1 1000000 true _ A1.out).mono ?_); rintro e w' ⟨rfl, ⟨nd, rfl⟩⟩) | (go_at_call 47; (with_reducible refine (impl_isDigit.calls a1 true _ A2.out).mono ?_); rintro e w' ⟨rfl, ⟨nd, rfl⟩⟩) | (go_at_call 54; (refine (impl_least.calls (impl_CounterShows.p k a1 a0) k 55 Tryz.f55 #[.pointer (some ⟨gb3, 0, none⟩), .pointer (some ⟨gb2, 0, none⟩)] 1 1000000000000 v _ Tryz.func55 (by kernel_rfl) rfl (fun x t W hx hB => impl_CounterShows_1.calls k gb3 gb2 a1 a0 x t W (Shelf.TabOk.below HT.out (below_step z8_1_ hB)) (blk_below (by (with_reducible repeat (first | refine blk_drewN ?_ _ | refine blk_drew ?_ | refine blk_alloc ?_ _)); exact BK3.out) hB) (blk_below (by (with_reducible repeat (first | refine blk_drewN ?_ _ | refine blk_drew ?_ | refine blk_alloc ?_ _)); exact BK2.out) hB) hx) A3.out).mono ?_); rintro e w9 ⟨rfl, hb⟩; have n0_ := Aside0.mk (below_step z8_1_ hb); clear HB hb; have HB := n0_; clear n0_))
   go_ret2
   exact ⟨rfl, by repeat (first | (with_reducible first | exact HB.out | apply below_alloc | apply pw_below_drewN | apply below_drew1) | exact HB.out)⟩

/-! ### spec_CounterShows: function 29 -/
mutual
def spec_CounterShows.j0 : Nat → Int → Int → Bool → Option (Int × Bool)
 | 0, _, _, _ => none
 | k + 1, x0, x1, x16 => if x16 = true then (some (0, false)) else (spec_CounterShows.l0 k x0 x1 1 1000000000000)
def spec_CounterShows.l0 : Nat → Int → Int → Int → Int → Option (Int × Bool)
 | 0, _, _, _, _ => none
 | k + 1, x0, x1, x6, x7 => if x6 < x7 then ((spec_diWithout.f k (wrap64 (Int.tdiv (wrap64 (x6 + x7)) 2)) x1).bind fun t317 => (if t317 ≥ x0 then (spec_CounterShows.l0 k x0 x1 x6 (wrap64 (Int.tdiv (wrap64 (x6 + x7)) 2))) else (spec_CounterShows.l0 k x0 x1 (wrap64 ((wrap64 (Int.tdiv (wrap64 (x6 + x7)) 2)) + 1)) x7))) else (some (x6, true))
end
def spec_CounterShows.f (k : Nat) (a0 : Int) (a1 : Int) : Option (Int × Bool) := (spec_l1In.f a0 1 1000000).bind fun t315 => (if t315 = true then ((spec_diDigit.f a1).bind fun t316 => (spec_CounterShows.j0 k a0 a1 (!t316))) else (spec_CounterShows.j0 k a0 a1 true))
theorem spec_CounterShows.mono_l : ∀ k, (∀ y0 y1 y2, LeO (spec_CounterShows.j0 k y0 y1 y2) (spec_CounterShows.j0 (k + 1) y0 y1 y2)) ∧ (∀ y0 y1 y2 y3, LeO (spec_CounterShows.l0 k y0 y1 y2 y3) (spec_CounterShows.l0 (k + 1) y0 y1 y2 y3))
 | 0 => ⟨fun _ _ _ r h => by simp [spec_CounterShows.j0] at h, fun _ _ _ _ r h => by simp [spec_CounterShows.l0] at h⟩
 | k + 1 => by
  obtain ⟨ih0, ih1⟩ := spec_CounterShows.mono_l k
  refine ⟨?_, ?_⟩
  · intro y0 y1 y2
    unfold spec_CounterShows.j0
    repeat' first
    | (with_reducible exact ih0 _ _ _)
    | (with_reducible exact ih1 _ _ _ _)
    | (with_reducible exact spec_diWithout.mono _ _ _)
    | (with_reducible exact LeO.refl _)
    | (with_reducible exact LeO.none _)
    | (with_reducible refine LeO.ite ?_ ?_)
    | (with_reducible refine LeO.bind ?_ (fun _ => ?_))
    | exact ih0 _ _ _
    | exact ih1 _ _ _ _
    | exact spec_diWithout.mono _ _ _
    | exact LeO.none _
    | refine LeO.ite ?_ ?_
    | refine LeO.bind ?_ (fun _ => ?_)
  intro y0 y1 y2 y3
  unfold spec_CounterShows.l0
  repeat' first
  | (with_reducible exact ih0 _ _ _)
  | (with_reducible exact ih1 _ _ _ _)
  | (with_reducible exact spec_diWithout.mono _ _ _)
  | (with_reducible exact LeO.refl _)
  | (with_reducible exact LeO.none _)
  | (with_reducible refine LeO.ite ?_ ?_)
  | (with_reducible refine LeO.bind ?_ (fun _ => ?_))
  | exact ih0 _ _ _
  | exact ih1 _ _ _ _
  | exact spec_diWithout.mono _ _ _
  | exact LeO.none _
  | refine LeO.ite ?_ ?_
  | refine LeO.bind ?_ (fun _ => ?_)
theorem spec_CounterShows.mono : ∀ a0 a1 k, LeO (spec_CounterShows.f k a0 a1) (spec_CounterShows.f (k + 1) a0 a1) := by
 intro a0 a1 k
 obtain ⟨ih0, ih1⟩ := spec_CounterShows.mono_l k
 unfold spec_CounterShows.f
 repeat' first
  | (with_reducible exact ih0 _ _ _)
  | (with_reducible exact ih1 _ _ _ _)
  | (with_reducible exact spec_diWithout.mono _ _ _)
  | (with_reducible exact LeO.refl _)
  | (with_reducible exact LeO.none _)
  | (with_reducible refine LeO.ite ?_ ?_)
  | (with_reducible refine LeO.bind ?_ (fun _ => ?_))
  | exact ih0 _ _ _
  | exact ih1 _ _ _ _
  | exact spec_diWithout.mono _ _ _
  | exact LeO.none _
  | refine LeO.ite ?_ ?_
  | refine LeO.bind ?_ (fun _ => ?_)
set_option maxHeartbeats 8000000 in
set_option maxRecDepth 100000 in
theorem spec_CounterShows.calls (k : Nat) (a0 : Int) (a1 : Int) (r1 : Int) (r2 : Bool) (w : World) (h : spec_CounterShows.f k a0 a1 = some (r1, r2)) :
 Calls Tryz.prog 29 #[.int .i64 a0, .int .i64 a1] w fun e w' => e = .returned (.tuple #[.int .i64 r1, .bool r2]) ∧ Below w.heap.size w w' := by
 have HB := Aside0.mk (Below.refl w.heap.size w)
 have H : ((spec_l1In.f a0 1 1000000).bind fun t315 => (if t315 = true then ((spec_diDigit.f a1).bind fun t316 => (spec_CounterShows.j0 k a0 a1 (!t316))) else (spec_CounterShows.j0 k a0 a1 true))) = some (r1, r2) := h
 clear h
 have HC3 := Aside0.mk H
 clear H
 go_enter Tryz.func29, Tryz.ntmps29
 go_upto_region 1 with (fail)
 go_cut [16] (fun v16 wc => ∃ (kq : Nat) (x16_2 : Bool), v16 = .bool x16_2 ∧ Aside0 (spec_CounterShows.j0 kq a0 a1 x16_2 = some (r1, r2)) ∧ Aside0 (kq ≤ k) ∧ Aside0 (Below w.heap.size w wc))
 case first =>
  have H := HC3.out
  clear HC3
  replace H := Option.bind_eq_some_iff.mp H
  obtain ⟨t315, A40, H⟩ := H
  have A4 := Aside0.mk A40
  clear A40
  by_cases c5 : t315 = true
  · subst c5
    have H1 : ((spec_diDigit.f a1).bind fun t316 => (spec_CounterShows.j0 k a0 a1 (!t316))) = some (r1, r2) := by rw [if_pos rfl] at H; exact H
    clear H
    have H := H1
    clear H1
    replace H := Option.bind_eq_some_iff.mp H
    obtain ⟨t316, A60, H⟩ := H
    have A6 := Aside0.mk A60
    clear A60
    have H' := Aside0.mk H
    clear H
    go_wp2_with (first | ((with_reducible refine gate_callee (f := 34) rfl ?_); refine goesL_ (some 10) rfl rfl Tryz.func34 (by kernel_rfl) rfl #[.int .i64 a0, .int .i64 1, .int .i64 1000000] rfl z8_0_ ?_; (with_reducible refine (spec_l1In.calls a0 1 1000000 true _ A4.out).mono ?_); rintro e w' ⟨rfl, ⟨nd, rfl⟩⟩; refine ⟨_, rfl, ?_⟩) | (go_at_call 49; (with_reducible refine (spec_diDigit.calls a1 t316 _ A6.out).mono ?_); rintro e w' ⟨rfl, ⟨nd, rfl⟩⟩))
    go_meet
    case rel => exact ⟨_, (!t316), z8_2_, H', ⟨by first | omega | exact Nat.le_refl _⟩, ⟨by repeat (first | (with_reducible first | exact HB.out | apply below_alloc | apply pw_below_drewN | apply below_drew1) | exact HB.out)⟩⟩
  replace c5 := Bool.eq_false_iff.mpr c5
  subst c5
  have H1 : (spec_CounterShows.j0 k a0 a1 true) = some (r1, r2) := by rw [if_neg (show ¬ (false = true) by decide)] at H; exact H
  clear H
  have H := H1
  clear H1
  have H' := Aside0.mk H
  clear H
  go_wp2_with (first | ((with_reducible refine gate_callee (f := 34) rfl ?_); refine goesL_ (some 10) rfl rfl Tryz.func34 (by kernel_rfl) rfl #[.int .i64 a0, .int .i64 1, .int .i64 1000000] rfl z8_0_ ?_; (with_reducible refine (spec_l1In.calls a0 1 1000000 false _ A4.out).mono ?_); rintro e w' ⟨rfl, ⟨nd, rfl⟩⟩; refine ⟨_, rfl, ?_⟩))
  go_meet
  case rel => exact ⟨_, (true), z8_2_, H', ⟨by first | omega | exact Nat.le_refl _⟩, ⟨by repeat (first | (with_reducible first | exact HB.out | apply below_alloc | apply pw_below_drewN | apply below_drew1) | exact HB.out)⟩⟩
 case rest =>
  clear HC3
  (try clear c2);(try clear p2);(try clear c3);(try clear c5)
  obtain ⟨kq, x16_2, rfl, HA, HJ2, HB⟩ := hcut
  cases kq with
  | zero => exact absurd HA.out (by simp [spec_CounterShows.j0])
  | succ kj2 =>
   have H := HA.out
   clear HA
   simp only [spec_CounterShows.j0] at H
   by_cases c7 : x16_2 = true
   · subst c7
     have H1 : (some (0, false)) = some (r1, r2) := by rw [if_pos rfl] at H; exact H
     clear H
     have H := H1
     clear H1
     simp only [Option.some.injEq, Prod.mk.injEq] at H
     obtain ⟨rfl, rfl⟩ := H
     go_wp2
     go_ret2
     exact ⟨by first | rfl | (simp [errW_none, errW_some] <;> rfl) | (simp [*, errW_none, errW_some] <;> rfl), by repeat (first | (with_reducible first | exact HB.out | apply below_alloc | apply pw_below_drewN | apply below_drew1) | exact HB.out)⟩
   replace c7 := Bool.eq_false_iff.mpr c7
   subst c7
   have H1 : (spec_CounterShows.l0 kj2 a0 a1 1 1000000000000) = some (r1, r2) := by rw [if_neg (show ¬ (false = true) by decide)] at H; exact H
   clear H
   have H := H1
   clear H1
   have H' := Aside0.mk H
   clear H
   go_wp2
   go_loopg [6, 7] kj2 (fun kq v6 v7 w' => ∃ (x6_2 : Int) (x7_2 : Int), v6 = .int .i64 x6_2 ∧ v7 = .int .i64 x7_2 ∧ Aside0 (spec_CounterShows.l0 kq a0 a1 x6_2 x7_2 = some (r1, r2)) ∧ Aside0 (kq ≤ kj2) ∧ Aside0 (Below w.heap.size w w'))
   case atStart => exact ⟨(1), (1000000000000), z8_2_, z8_2_, H', ⟨Nat.le_refl _⟩, ⟨by repeat (first | (with_reducible first | exact HB.out | apply below_alloc | apply pw_below_drewN | apply below_drew1) | exact HB.out)⟩⟩
   case round =>
    clear H'
    (try clear c2);(try clear p2);(try clear c3);(try clear c5);(try clear c7);(try clear p2)
    obtain ⟨x6_2, x7_2, rfl, rfl, HA, HK2, HB⟩ := hrel
    cases gk with
    | zero => exact absurd HA.out (by simp [spec_CounterShows.l0])
    | succ k2 =>
     have H := HA.out
     clear HA
     simp only [spec_CounterShows.l0] at H
     by_cases c8 : x6_2 < x7_2
     · rw [if_pos c8] at H
       have c8b0 : decide (x6_2 < x7_2) = true := decide_eq_true c8
       clear c8
       replace H := Option.bind_eq_some_iff.mp H
       obtain ⟨t317, A90, H⟩ := H
       have A9 := Aside0.mk A90
       clear A90
       by_cases c10 : t317 ≥ a0
       · rw [if_pos c10] at H
         have c10b0 : decide (a0 ≤ t317) = true := decide_eq_true c10
         clear c10
         have H' := Aside0.mk H
         clear H
         go_wp2_with (first | ((with_reducible refine gate_callee (f := 50) rfl ?_); refine goesL_ (some 26) rfl rfl Tryz.func50 (by kernel_rfl) rfl #[.int .i64 (wrap64 (Int.tdiv (wrap64 (x6_2 + x7_2)) 2)), .int .i64 a1] rfl z8_0_ ?_; (with_reducible refine (spec_diWithout.calls k2 (wrap64 (Int.tdiv (wrap64 (x6_2 + x7_2)) 2)) a1 t317 _ A9.out).mono ?_); rintro e w11 ⟨rfl, hb⟩; refine ⟨_, rfl, ?_⟩; have n0_ := Aside0.mk (below_step z8_1_ hb); clear HB; have HB := n0_; clear n0_; (try clear hb); (try clear hb2); (try clear hk); (try clear hi)))
         go_roundg k2
         case measure => have := HJ2.out; have := HK2.out; omega
         case rel => exact ⟨(x6_2), (wrap64 (Int.tdiv (wrap64 (x6_2 + x7_2)) 2)), z8_2_, z8_2_, H', ⟨by have := HJ2.out; have := HK2.out; omega⟩, ⟨by repeat (first | (with_reducible first | exact HB.out | apply below_alloc | apply pw_below_drewN | apply below_drew1) | exact HB.out)⟩⟩
       rw [if_neg c10] at H
       have c10b0 : decide (a0 ≤ t317) = false := decide_eq_false c10
       clear c10
       have H' := Aside0.mk H
       clear H
       go_wp2_with (first | ((with_reducible refine gate_callee (f := 50) rfl ?_); refine goesL_ (some 26) rfl rfl Tryz.func50 (by kernel_rfl) rfl #[.int .i64 (wrap64 (Int.tdiv (wrap64 (x6_2 + x7_2)) 2)), .int .i64 a1] rfl z8_0_ ?_; (with_reducible refine (spec_diWithout.calls k2 (wrap64 (Int.tdiv (wrap64 (x6_2 + x7_2)) 2)) a1 t317 _ A9.out).mono ?_); rintro e w12 ⟨rfl, hb⟩; refine ⟨_, rfl, ?_⟩; have n0_ := Aside0.mk (below_step z8_1_ hb); clear HB; have HB := n0_; clear n0_; (try clear hb); (try clear hb2); (try clear hk); (try clear hi)))
       go_roundg k2
       case measure => have := HJ2.out; have := HK2.out; omega
       case rel => exact ⟨(wrap64 ((wrap64 (Int.tdiv (wrap64 (x6_2 + x7_2)) 2)) + 1)), (x7_2), z8_2_, z8_2_, H', ⟨by have := HJ2.out; have := HK2.out; omega⟩, ⟨by repeat (first | (with_reducible first | exact HB.out | apply below_alloc | apply pw_below_drewN | apply below_drew1) | exact HB.out)⟩⟩
     rw [if_neg c8] at H
     have c8b0 : decide (x6_2 < x7_2) = false := decide_eq_false c8
     clear c8
     simp only [Option.some.injEq, Prod.mk.injEq] at H
     obtain ⟨rfl, rfl⟩ := H
     go_wp2
     go_ret2
     exact ⟨by first | rfl | (simp [errW_none, errW_some] <;> rfl) | (simp [*, errW_none, errW_some] <;> rfl), by repeat (first | (with_reducible first | exact HB.out | apply below_alloc | apply pw_below_drewN | apply below_drew1) | exact HB.out)⟩

end Go.Proofs.YtjpbadckmackbaaGreatDoor.PFnDigitsSummed

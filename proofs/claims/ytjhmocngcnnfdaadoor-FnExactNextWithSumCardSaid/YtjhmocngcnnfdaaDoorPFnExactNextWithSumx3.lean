-- Laid by this session's program gprint.py over the kit's print.
import Derived.Test.YtjhmocngcnnfdaaDoorPFnExactNextWithSumx0
import Derived.Test.YtjhmocngcnnfdaaDoorPFnExactNextWithSumx1
import Derived.Test.YtjhmocngcnnfdaaDoorPFnExactNextWithSumx2
namespace Go.Proofs.YtjhmocngcnnfdaaDoor.PFnExactNextWithSum
open Go.RowKit Go.Proofs.YtjhmocngcnnfdaaDoorW.PrintWords Go.Proofs.YtjhmocngcnnfdaaDoorW.PrintLast Go.Proofs.YtjhmocngcnnfdaaDoorW.PrintMore
attribute [local go_sem] max2_int min2_int max_two min_two max_three min_three max_four min_four   -- for this text's walks alone
set_option linter.unusedVariables false
set_option linter.unusedSimpArgs false
theorem z3_0_ {p : Prop} (h : p := by repeat (first | (with_reducible first | exact HB.out | apply below_alloc | apply pw_below_drewN | apply below_drew1) | exact HB.out)) : p := h
theorem z3_1_ {p : Prop} (h : p := by (try simp only [List.map_toArray, List.map_cons, List.map_nil]); first | done | rfl | (simp only [List.length_drop, List.length_take]; rfl)) : p := h
theorem z3_2_ {p : Prop} (h : p := by first | rfl | (simp; done) | (simp [*]; done)) : p := h

/-! ### impl_below: function 71 -/
mutual
def impl_below.l0 : Nat → Int → ByteArray → Int → Int → Int → Option (Int)
 | 0, _, _, _, _, _ => none
 | k + 1, x1, x5, x6, x13, x14 => if x14 < x13 then ((impl_ways.f k (wrap64 (12 - x14))).bind fun t134 => (impl_below.l1 k x1 x5 x6 x14 t134 48 x13 x14)) else (some x6)
def impl_below.l1 : Nat → Int → ByteArray → Int → Int → List Int → Int → Int → Int → Option (Int)
 | 0, _, _, _, _, _, _, _, _ => none
 | k + 1, x1, x5, x6, x7, x8, x9, x13, x14 => if 0 ≤ x7 then (if x7 < (x5.size : Int) then (if x9 < (bt x5 x7) then (if x7 ≤ (x5.size : Int) then ((impl_sumOf.f k (x5.extract 0 (x7 : Int).toNat)).bind fun t137 => ((impl_at.f x8 (wrap64 ((wrap64 (x1 - t137)) - ((x9 - 48) % 256)))).bind fun t138 => (impl_below.l1 k x1 x5 (wrap64 (x6 + t138)) x7 x8 ((x9 + 1) % 256) x13 x14))) else (none)) else (impl_below.l0 k x1 x5 x6 x13 (wrap64 (x14 + 1)))) else (none)) else (none)
end
def impl_below.f (k : Nat) (a0 : Int) (a1 : Int) : Option (Int) := (impl_padded.f a0 13).bind fun t133 => (impl_below.l0 k a1 t133 0 (t133.size : Int) 0)
theorem impl_below.mono_l : ∀ k, (∀ y0 y1 y2 y3 y4, LeO (impl_below.l0 k y0 y1 y2 y3 y4) (impl_below.l0 (k + 1) y0 y1 y2 y3 y4)) ∧ (∀ y0 y1 y2 y3 y4 y5 y6 y7, LeO (impl_below.l1 k y0 y1 y2 y3 y4 y5 y6 y7) (impl_below.l1 (k + 1) y0 y1 y2 y3 y4 y5 y6 y7))
 | 0 => ⟨fun _ _ _ _ _ r h => by simp [impl_below.l0] at h, fun _ _ _ _ _ _ _ _ r h => by simp [impl_below.l1] at h⟩
 | k + 1 => by
  obtain ⟨ih0, ih1⟩ := impl_below.mono_l k
  refine ⟨?_, ?_⟩
  · intro y0 y1 y2 y3 y4
    unfold impl_below.l0
    repeat' first
    | (with_reducible exact ih0 _ _ _ _ _)
    | (with_reducible exact ih1 _ _ _ _ _ _ _ _)
    | (with_reducible exact impl_sumOf.mono _ _)
    | (with_reducible exact impl_ways.mono _ _)
    | (with_reducible exact LeO.refl _)
    | (with_reducible exact LeO.none _)
    | (with_reducible refine LeO.ite ?_ ?_)
    | (with_reducible refine LeO.bind ?_ (fun _ => ?_))
    | exact ih0 _ _ _ _ _
    | exact ih1 _ _ _ _ _ _ _ _
    | exact impl_sumOf.mono _ _
    | exact impl_ways.mono _ _
    | exact LeO.none _
    | refine LeO.ite ?_ ?_
    | refine LeO.bind ?_ (fun _ => ?_)
  intro y0 y1 y2 y3 y4 y5 y6 y7
  unfold impl_below.l1
  repeat' first
  | (with_reducible exact ih0 _ _ _ _ _)
  | (with_reducible exact ih1 _ _ _ _ _ _ _ _)
  | (with_reducible exact impl_sumOf.mono _ _)
  | (with_reducible exact impl_ways.mono _ _)
  | (with_reducible exact LeO.refl _)
  | (with_reducible exact LeO.none _)
  | (with_reducible refine LeO.ite ?_ ?_)
  | (with_reducible refine LeO.bind ?_ (fun _ => ?_))
  | exact ih0 _ _ _ _ _
  | exact ih1 _ _ _ _ _ _ _ _
  | exact impl_sumOf.mono _ _
  | exact impl_ways.mono _ _
  | exact LeO.none _
  | refine LeO.ite ?_ ?_
  | refine LeO.bind ?_ (fun _ => ?_)
theorem impl_below.mono : ∀ a0 a1 k, LeO (impl_below.f k a0 a1) (impl_below.f (k + 1) a0 a1) := by
 intro a0 a1 k
 obtain ⟨ih0, ih1⟩ := impl_below.mono_l k
 unfold impl_below.f
 repeat' first
  | (with_reducible exact ih0 _ _ _ _ _)
  | (with_reducible exact ih1 _ _ _ _ _ _ _ _)
  | (with_reducible exact impl_sumOf.mono _ _)
  | (with_reducible exact impl_ways.mono _ _)
  | (with_reducible exact LeO.refl _)
  | (with_reducible exact LeO.none _)
  | (with_reducible refine LeO.ite ?_ ?_)
  | (with_reducible refine LeO.bind ?_ (fun _ => ?_))
  | exact ih0 _ _ _ _ _
  | exact ih1 _ _ _ _ _ _ _ _
  | exact impl_sumOf.mono _ _
  | exact impl_ways.mono _ _
  | exact LeO.none _
  | refine LeO.ite ?_ ?_
  | refine LeO.bind ?_ (fun _ => ?_)
set_option maxHeartbeats 8000000 in
set_option maxRecDepth 100000 in
theorem impl_below.calls (k : Nat) (a0 : Int) (a1 : Int) (r : Int) (w : World) (hT : Shelf.TabOk w) (h : impl_below.f k a0 a1 = some r) :
 Calls Tryd.prog 71 #[.int .i64 a0, .int .i64 a1] w fun e w' => e = .returned (.int .i64 r) ∧ Below w.heap.size w w' := by
 have HT := Aside0.mk hT
 clear hT
 have HB := Aside0.mk (Below.refl w.heap.size w)
 have H : ((impl_padded.f a0 13).bind fun t133 => (impl_below.l0 k a1 t133 0 (t133.size : Int) 0)) = some r := h
 clear h
 replace H := Option.bind_eq_some_iff.mp H
 obtain ⟨t133, A30, H⟩ := H
 have A3 := Aside0.mk A30
 clear A30
 have H' := Aside0.mk H
 clear H
 go_enter Tryd.func71, Tryd.ntmps71
 go_wp2_with (first | ((with_reducible refine gate_callee (f := 130) rfl ?_); refine goesL_ (some 11) rfl rfl Tryd.func130 (by kernel_rfl) rfl #[.int .i64 a0, .int .i64 13] rfl z3_1_ ?_; (with_reducible refine (impl_padded.calls a0 13 t133 _ ?side1 A3.out).mono ?_); (case side1 => exact Shelf.TabOk.below HT.out z3_0_); rintro e w4 ⟨rfl, hb⟩; refine ⟨_, rfl, ?_⟩; have n0_ := Aside0.mk (below_step z3_0_ hb); clear HB; have HB := n0_; clear n0_; (try clear hb); (try clear hb2); (try clear hk); (try clear hi)))
 go_loopg [6, 14] k (fun kq v6 v14 w' => ∃ (x6_1 : Int) (x14_1 : Int), v6 = .int .i64 x6_1 ∧ v14 = .int .i64 x14_1 ∧ Aside0 (impl_below.l0 kq a1 t133 x6_1 (t133.size : Int) x14_1 = some r) ∧ Aside0 (kq ≤ k) ∧ Aside0 (Below w.heap.size w w'))
 case atStart => exact ⟨(0), (0), z3_2_, z3_2_, H', ⟨Nat.le_refl _⟩, ⟨by repeat (first | (with_reducible first | exact HB.out | apply below_alloc | apply pw_below_drewN | apply below_drew1) | exact HB.out)⟩⟩
 case round =>
  clear H'
  (try clear c1);(try clear p2)
  obtain ⟨x6_1, x14_1, rfl, rfl, HA, HK1, HB⟩ := hrel
  cases gk with
  | zero => exact absurd HA.out (by simp [impl_below.l0])
  | succ k1 =>
   have H := HA.out
   clear HA
   simp only [impl_below.l0] at H
   by_cases c5 : x14_1 < (t133.size : Int)
   · rw [if_pos c5] at H
     have c5b0 : decide (x14_1 < (t133.size : Int)) = true := decide_eq_true c5
     clear c5
     replace H := Option.bind_eq_some_iff.mp H
     obtain ⟨t134, A60, H⟩ := H
     have A6 := Aside0.mk A60
     clear A60
     have H' := Aside0.mk H
     clear H
     go_wp2_with (first | ((with_reducible refine gate_callee (f := 128) rfl ?_); refine goesL_ (some 19) rfl rfl Tryd.func128 (by kernel_rfl) rfl #[.int .i64 (wrap64 (12 - x14_1))] rfl z3_1_ ?_; (with_reducible refine (impl_ways.calls k1 (wrap64 (12 - x14_1)) t134 _ A6.out).mono ?_); rintro e w7 ⟨v135, rfl, ho0, hb⟩; refine ⟨_, rfl, ?_⟩; have n0_ := Aside0.mk (Kd.R_lower ho0 (below_size z3_0_)); have n1_ := Aside0.mk (below_step z3_0_ hb); clear HB; have HO136 := n0_; have HB := n1_; clear n0_ n1_; (try clear hb); (try clear hb2); (try clear hk); (try clear hi); (try clear ho0)))
     go_loopg [6, 9] k1 (fun kq v6 v9 w' => ∃ (x6_2 : Int) (x9_2 : Int), v6 = .int .i64 x6_2 ∧ v9 = .int .u8 x9_2 ∧ Aside0 (impl_below.l1 kq a1 t133 x6_2 x14_1 t134 x9_2 (t133.size : Int) x14_1 = some r) ∧ Aside0 (kq ≤ k1) ∧ Aside0 (Kd.R (Kd.int .i64) 3 w' w.heap.size (fun _ => True) v135 t134) ∧ Aside0 (Below w.heap.size w w'))
     case atStart => exact ⟨(x6_1), (48), z3_2_, z3_2_, H', ⟨Nat.le_refl _⟩, ⟨by (with_reducible repeat (first | apply Kd.R_alloc | apply Kd.R_drewN | apply Kd.R_drew)); exact HO136.out⟩, ⟨by repeat (first | (with_reducible first | exact HB.out | apply below_alloc | apply pw_below_drewN | apply below_drew1) | exact HB.out)⟩⟩
     case round =>
      clear H'
      (try clear c1);(try clear p2);(try clear c5);(try clear c5b0);(try clear p6);(try clear c7);(try clear p2)
      obtain ⟨x6_2, x9_2, rfl, rfl, HA, HK2, HO_8, HB⟩ := hrel
      cases gk with
      | zero => exact absurd HA.out (by simp [impl_below.l1])
      | succ k2 =>
       have H := HA.out
       clear HA
       simp only [impl_below.l1] at H
       by_cases c8 : 0 ≤ x14_1
       rotate_left
       · exact none_ (if_neg c8) H
       rw [if_pos c8] at H
       have c8b0 : decide (0 ≤ x14_1) = true := decide_eq_true c8
       clear c8
       by_cases c9 : x14_1 < (t133.size : Int)
       rotate_left
       · exact none_ (if_neg c9) H
       rw [if_pos c9] at H
       have c9b0 : decide (x14_1 < (t133.size : Int)) = true := decide_eq_true c9
       clear c9
       by_cases c11 : x9_2 < (bt t133 x14_1)
       · rw [if_pos c11] at H
         have c11b0 : decide (x9_2 < (bt t133 x14_1)) = true := decide_eq_true c11
         clear c11
         have c12b0 := eq_true (of_decide_eq_true (by first | (with_reducible assumption) | assumption) : 0 ≤ x14_1)
         by_cases c13 : x14_1 ≤ (t133.size : Int)
         rotate_left
         · exact none_ (if_neg c13) H
         rw [if_pos c13] at H
         have c13b0 := eq_true c13
         have c13b1 : decide (x14_1 ≤ (t133.size : Int)) = true := decide_eq_true c13
         clear c13
         replace H := Option.bind_eq_some_iff.mp H
         obtain ⟨t137, A140, H⟩ := H
         have A14 := Aside0.mk A140
         clear A140
         replace H := Option.bind_eq_some_iff.mp H
         obtain ⟨t138, A150, H⟩ := H
         have A15 := Aside0.mk A150
         clear A150
         have H' := Aside0.mk H
         clear H
         have p10 : 0 ≤ (x14_1 : Int) := of_decide_eq_true (by first | (with_reducible assumption) | assumption)
         have q10 : x14_1 < (t133.size : Int) := of_decide_eq_true (by first | (with_reducible assumption) | assumption)
         have hx10 := bt_at t133 x14_1
         replace p10 := eq_true p10
         replace q10 := eq_true q10
         go_wp2_with (first | ((with_reducible refine gate_callee (f := 129) rfl ?_); refine goesL_ (some 33) rfl rfl Tryd.func129 (by kernel_rfl) rfl #[.string (t133.extract 0 (x14_1 : Int).toNat)] rfl z3_1_ ?_; (with_reducible refine (impl_sumOf.calls k2 (t133.extract 0 (x14_1 : Int).toNat) t137 _ A14.out).mono ?_); rintro e w' ⟨rfl, ⟨nd, rfl⟩⟩; refine ⟨_, rfl, ?_⟩; obtain ⟨Ao16, co16, eo16⟩ := Kd.R_slice HO_8.out; subst eo16) | ((with_reducible refine gate_callee (f := 127) rfl ?_); refine goesL_ (some 39) rfl rfl Tryd.func127 (by kernel_rfl) rfl #[.slice Ao16 t134.length co16, .int .i64 (wrap64 ((wrap64 (a1 - t137)) - ((x9_2 - 48) % 256)))] rfl z3_1_ ?_; (with_reducible refine (impl_at.calls _ _ t134 (wrap64 ((wrap64 (a1 - t137)) - ((x9_2 - 48) % 256))) t138 _ ?side1 ?side2 A15.out).mono ?_); (case side1 => repeat (first | exact (Kd.R_reads' HO_8.out).2.2 | (with_reducible refine Kd.C_alloc ?_ _) | (with_reducible refine Kd.C_drewN ?_ _) | (with_reducible refine Kd.C_drew ?_))); (case side2 => exact (Kd.R_reads' HO_8.out).2.1); rintro e w' ⟨rfl, ⟨nd, rfl⟩⟩; refine ⟨_, rfl, ?_⟩))
         go_roundg k2
         case measure => have := HK1.out; have := HK2.out; omega
         case rel => exact ⟨(wrap64 (x6_2 + t138)), ((x9_2 + 1) % 256), z3_2_, z3_2_, H', ⟨by have := HK1.out; have := HK2.out; omega⟩, ⟨by (with_reducible repeat (first | apply Kd.R_alloc | apply Kd.R_drewN | apply Kd.R_drew)); exact HO_8.out⟩, ⟨by repeat (first | (with_reducible first | exact HB.out | apply below_alloc | apply pw_below_drewN | apply below_drew1) | exact HB.out)⟩⟩
       rw [if_neg c11] at H
       have c11b0 : decide (x9_2 < (bt t133 x14_1)) = false := decide_eq_false c11
       clear c11
       have H' := Aside0.mk H
       clear H
       have p10 : 0 ≤ (x14_1 : Int) := of_decide_eq_true (by first | (with_reducible assumption) | assumption)
       have q10 : x14_1 < (t133.size : Int) := of_decide_eq_true (by first | (with_reducible assumption) | assumption)
       have hx10 := bt_at t133 x14_1
       replace p10 := eq_true p10
       replace q10 := eq_true q10
       go_wp2
       go_roundg k2
       case measure => have := HK1.out; have := HK2.out; omega
       case rel => exact ⟨(x6_2), (wrap64 (x14_1 + 1)), z3_2_, z3_2_, H', ⟨by have := HK1.out; have := HK2.out; omega⟩, ⟨by repeat (first | (with_reducible first | exact HB.out | apply below_alloc | apply pw_below_drewN | apply below_drew1) | exact HB.out)⟩⟩
   rw [if_neg c5] at H
   have c5b0 : decide (x14_1 < (t133.size : Int)) = false := decide_eq_false c5
   clear c5
   obtain rfl := Option.some.inj H
   go_wp2
   go_ret
   exact ⟨by first | rfl | (simp [errW_none, errW_some] <;> rfl) | (simp [*, errW_none, errW_some] <;> rfl), by repeat (first | (with_reducible first | exact HB.out | apply below_alloc | apply pw_below_drewN | apply below_drew1) | exact HB.out)⟩

/-! ### impl_NextWithSum: function 20 -/
def impl_NextWithSum.f (k : Nat) (a0 : Int) : Option (Int × Bool) := (impl_isLeast.f a0).bind fun t139 => (if t139 = true then ((impl_digitSum.f k a0).bind fun t140 => ((impl_digitSum.f k a0).bind fun t141 => ((impl_below.f k (wrap64 (a0 + 1)) t141).bind fun t142 => ((impl_ofSum.f k t140 t142).bind fun bt143 => (if bt143.2 = true then (some (bt143.1, true)) else (some (0, false))))))) else (some (0, false)))
theorem impl_NextWithSum.mono : ∀ a0 k, LeO (impl_NextWithSum.f k a0) (impl_NextWithSum.f (k + 1) a0) := by
 intro a0 k
 unfold impl_NextWithSum.f
 repeat' first
  | (with_reducible exact impl_below.mono _ _ _)
  | (with_reducible exact impl_digitSum.mono _ _)
  | (with_reducible exact impl_ofSum.mono _ _ _)
  | (with_reducible exact LeO.refl _)
  | (with_reducible exact LeO.none _)
  | (with_reducible refine LeO.ite ?_ ?_)
  | (with_reducible refine LeO.bind ?_ (fun _ => ?_))
  | exact impl_below.mono _ _ _
  | exact impl_digitSum.mono _ _
  | exact impl_ofSum.mono _ _ _
  | exact LeO.none _
  | refine LeO.ite ?_ ?_
  | refine LeO.bind ?_ (fun _ => ?_)
set_option maxHeartbeats 8000000 in
set_option maxRecDepth 100000 in
theorem impl_NextWithSum.calls (k : Nat) (a0 : Int) (r1 : Int) (r2 : Bool) (w : World) (hT : Shelf.TabOk w) (h : impl_NextWithSum.f k a0 = some (r1, r2)) :
 Calls Tryd.prog 20 #[.int .i64 a0] w fun e w' => e = .returned (.tuple #[.int .i64 r1, .bool r2]) ∧ Below w.heap.size w w' := by
 have HT := Aside0.mk hT
 clear hT
 have HB := Aside0.mk (Below.refl w.heap.size w)
 have H : ((impl_isLeast.f a0).bind fun t139 => (if t139 = true then ((impl_digitSum.f k a0).bind fun t140 => ((impl_digitSum.f k a0).bind fun t141 => ((impl_below.f k (wrap64 (a0 + 1)) t141).bind fun t142 => ((impl_ofSum.f k t140 t142).bind fun bt143 => (if bt143.2 = true then (some (bt143.1, true)) else (some (0, false))))))) else (some (0, false)))) = some (r1, r2) := h
 clear h
 replace H := Option.bind_eq_some_iff.mp H
 obtain ⟨t139, A20, H⟩ := H
 have A2 := Aside0.mk A20
 clear A20
 by_cases c3 : t139 = true
 · subst c3
   have H1 : ((impl_digitSum.f k a0).bind fun t140 => ((impl_digitSum.f k a0).bind fun t141 => ((impl_below.f k (wrap64 (a0 + 1)) t141).bind fun t142 => ((impl_ofSum.f k t140 t142).bind fun bt143 => (if bt143.2 = true then (some (bt143.1, true)) else (some (0, false))))))) = some (r1, r2) := by rw [if_pos rfl] at H; exact H
   clear H
   have H := H1
   clear H1
   replace H := Option.bind_eq_some_iff.mp H
   obtain ⟨t140, A40, H⟩ := H
   have A4 := Aside0.mk A40
   clear A40
   replace H := Option.bind_eq_some_iff.mp H
   obtain ⟨t141, A50, H⟩ := H
   have A5 := Aside0.mk A50
   clear A50
   replace H := Option.bind_eq_some_iff.mp H
   obtain ⟨t142, A60, H⟩ := H
   have A6 := Aside0.mk A60
   clear A60
   replace H := Option.bind_eq_some_iff.mp H
   obtain ⟨⟨t143, t144⟩, A70, H⟩ := H
   dsimp only at H
   have A7 := Aside0.mk A70
   clear A70
   by_cases c8 : t144 = true
   · subst c8
     have H1 : (some (t143, true)) = some (r1, r2) := by rw [if_pos rfl] at H; exact H
     clear H
     have H := H1
     clear H1
     simp only [Option.some.injEq, Prod.mk.injEq] at H
     obtain ⟨rfl, rfl⟩ := H
     go_enter Tryd.func20, Tryd.ntmps20
     go_wp2_with (first | ((with_reducible refine gate_callee (f := 68) rfl ?_); refine goesL_ (some 7) rfl rfl Tryd.func68 (by kernel_rfl) rfl #[.int .i64 a0] rfl z3_1_ ?_; (with_reducible refine (impl_isLeast.calls a0 true _ A2.out).mono ?_); rintro e w' ⟨rfl, ⟨nd, rfl⟩⟩; refine ⟨_, rfl, ?_⟩) | ((with_reducible refine gate_callee (f := 70) rfl ?_); refine goesL_ (some 11) rfl rfl Tryd.func70 (by kernel_rfl) rfl #[.int .i64 a0] rfl z3_1_ ?_; (with_reducible refine (impl_digitSum.calls k a0 t140 _ ?side1 A4.out).mono ?_); (case side1 => exact Shelf.TabOk.below HT.out z3_0_); rintro e w9 ⟨rfl, hb⟩; refine ⟨_, rfl, ?_⟩; have n0_ := Aside0.mk (below_step z3_0_ hb); clear HB; have HB := n0_; clear n0_; (try clear hb); (try clear hb2); (try clear hk); (try clear hi)) | ((with_reducible refine gate_callee (f := 70) rfl ?_); refine goesL_ (some 15) rfl rfl Tryd.func70 (by kernel_rfl) rfl #[.int .i64 a0] rfl z3_1_ ?_; (with_reducible refine (impl_digitSum.calls k a0 t141 _ ?side1 A5.out).mono ?_); (case side1 => exact Shelf.TabOk.below HT.out z3_0_); rintro e w10 ⟨rfl, hb⟩; refine ⟨_, rfl, ?_⟩; have n0_ := Aside0.mk (below_step z3_0_ hb); clear HB; have HB := n0_; clear n0_; (try clear hb); (try clear hb2); (try clear hk); (try clear hi)) | ((with_reducible refine gate_callee (f := 71) rfl ?_); refine goesL_ (some 16) rfl rfl Tryd.func71 (by kernel_rfl) rfl #[.int .i64 (wrap64 (a0 + 1)), .int .i64 t141] rfl z3_1_ ?_; (with_reducible refine (impl_below.calls k (wrap64 (a0 + 1)) t141 t142 _ ?side1 A6.out).mono ?_); (case side1 => exact Shelf.TabOk.below HT.out z3_0_); rintro e w11 ⟨rfl, hb⟩; refine ⟨_, rfl, ?_⟩; have n0_ := Aside0.mk (below_step z3_0_ hb); clear HB; have HB := n0_; clear n0_; (try clear hb); (try clear hb2); (try clear hk); (try clear hi)) | ((with_reducible refine gate_callee (f := 69) rfl ?_); refine goesL_ (some 17) rfl rfl Tryd.func69 (by kernel_rfl) rfl #[.int .i64 t140, .int .i64 t142] rfl z3_1_ ?_; (with_reducible refine (impl_ofSum.calls k t140 t142 t143 true _ A7.out).mono ?_); rintro e w12 ⟨rfl, hb⟩; refine ⟨_, rfl, ?_⟩; have n0_ := Aside0.mk (below_step z3_0_ hb); clear HB; have HB := n0_; clear n0_; (try clear hb); (try clear hb2); (try clear hk); (try clear hi)))
     go_ret2
     exact ⟨by first | rfl | (simp [errW_none, errW_some] <;> rfl) | (simp [*, errW_none, errW_some] <;> rfl), by repeat (first | (with_reducible first | exact HB.out | apply below_alloc | apply pw_below_drewN | apply below_drew1) | exact HB.out)⟩
   replace c8 := Bool.eq_false_iff.mpr c8
   subst c8
   have H1 : (some (0, false)) = some (r1, r2) := by rw [if_neg (show ¬ (false = true) by decide)] at H; exact H
   clear H
   have H := H1
   clear H1
   simp only [Option.some.injEq, Prod.mk.injEq] at H
   obtain ⟨rfl, rfl⟩ := H
   go_enter Tryd.func20, Tryd.ntmps20
   go_wp2_with (first | ((with_reducible refine gate_callee (f := 68) rfl ?_); refine goesL_ (some 7) rfl rfl Tryd.func68 (by kernel_rfl) rfl #[.int .i64 a0] rfl z3_1_ ?_; (with_reducible refine (impl_isLeast.calls a0 true _ A2.out).mono ?_); rintro e w' ⟨rfl, ⟨nd, rfl⟩⟩; refine ⟨_, rfl, ?_⟩) | ((with_reducible refine gate_callee (f := 70) rfl ?_); refine goesL_ (some 11) rfl rfl Tryd.func70 (by kernel_rfl) rfl #[.int .i64 a0] rfl z3_1_ ?_; (with_reducible refine (impl_digitSum.calls k a0 t140 _ ?side1 A4.out).mono ?_); (case side1 => exact Shelf.TabOk.below HT.out z3_0_); rintro e w13 ⟨rfl, hb⟩; refine ⟨_, rfl, ?_⟩; have n0_ := Aside0.mk (below_step z3_0_ hb); clear HB; have HB := n0_; clear n0_; (try clear hb); (try clear hb2); (try clear hk); (try clear hi)) | ((with_reducible refine gate_callee (f := 70) rfl ?_); refine goesL_ (some 15) rfl rfl Tryd.func70 (by kernel_rfl) rfl #[.int .i64 a0] rfl z3_1_ ?_; (with_reducible refine (impl_digitSum.calls k a0 t141 _ ?side1 A5.out).mono ?_); (case side1 => exact Shelf.TabOk.below HT.out z3_0_); rintro e w14 ⟨rfl, hb⟩; refine ⟨_, rfl, ?_⟩; have n0_ := Aside0.mk (below_step z3_0_ hb); clear HB; have HB := n0_; clear n0_; (try clear hb); (try clear hb2); (try clear hk); (try clear hi)) | ((with_reducible refine gate_callee (f := 71) rfl ?_); refine goesL_ (some 16) rfl rfl Tryd.func71 (by kernel_rfl) rfl #[.int .i64 (wrap64 (a0 + 1)), .int .i64 t141] rfl z3_1_ ?_; (with_reducible refine (impl_below.calls k (wrap64 (a0 + 1)) t141 t142 _ ?side1 A6.out).mono ?_); (case side1 => exact Shelf.TabOk.below HT.out z3_0_); rintro e w15 ⟨rfl, hb⟩; refine ⟨_, rfl, ?_⟩; have n0_ := Aside0.mk (below_step z3_0_ hb); clear HB; have HB := n0_; clear n0_; (try clear hb); (try clear hb2); (try clear hk); (try clear hi)) | ((with_reducible refine gate_callee (f := 69) rfl ?_); refine goesL_ (some 17) rfl rfl Tryd.func69 (by kernel_rfl) rfl #[.int .i64 t140, .int .i64 t142] rfl z3_1_ ?_; (with_reducible refine (impl_ofSum.calls k t140 t142 t143 false _ A7.out).mono ?_); rintro e w16 ⟨rfl, hb⟩; refine ⟨_, rfl, ?_⟩; have n0_ := Aside0.mk (below_step z3_0_ hb); clear HB; have HB := n0_; clear n0_; (try clear hb); (try clear hb2); (try clear hk); (try clear hi)))
   go_ret2
   exact ⟨by first | rfl | (simp [errW_none, errW_some] <;> rfl) | (simp [*, errW_none, errW_some] <;> rfl), by repeat (first | (with_reducible first | exact HB.out | apply below_alloc | apply pw_below_drewN | apply below_drew1) | exact HB.out)⟩
 replace c3 := Bool.eq_false_iff.mpr c3
 subst c3
 have H1 : (some (0, false)) = some (r1, r2) := by rw [if_neg (show ¬ (false = true) by decide)] at H; exact H
 clear H
 have H := H1
 clear H1
 simp only [Option.some.injEq, Prod.mk.injEq] at H
 obtain ⟨rfl, rfl⟩ := H
 go_enter Tryd.func20, Tryd.ntmps20
 go_wp2_with (first | ((with_reducible refine gate_callee (f := 68) rfl ?_); refine goesL_ (some 7) rfl rfl Tryd.func68 (by kernel_rfl) rfl #[.int .i64 a0] rfl z3_1_ ?_; (with_reducible refine (impl_isLeast.calls a0 false _ A2.out).mono ?_); rintro e w' ⟨rfl, ⟨nd, rfl⟩⟩; refine ⟨_, rfl, ?_⟩))
 go_ret2
 exact ⟨by first | rfl | (simp [errW_none, errW_some] <;> rfl) | (simp [*, errW_none, errW_some] <;> rfl), by repeat (first | (with_reducible first | exact HB.out | apply below_alloc | apply pw_below_drewN | apply below_drew1) | exact HB.out)⟩

/-! ### laws_FnExactNextWithSum: function 5 -/
def laws_FnExactNextWithSum.f (k : Nat) (a0 : Int) : Option (Bool) := (spec_NextWithSum.f k a0).bind fun bt145 => ((impl_NextWithSum.f k a0).bind fun bt147 => (if bt147.1 = bt145.1 then (if (bt147.2 != bt145.2) = true then (some false) else (some true)) else (some false)))
set_option maxHeartbeats 8000000 in
set_option maxRecDepth 100000 in
theorem laws_FnExactNextWithSum.calls (k : Nat) (a0 : Int) (r : Bool) (w : World) (hT : Shelf.TabOk w) (hr_ : Aside0 (r = true)) (h : laws_FnExactNextWithSum.f k a0 = some r) :
 Calls Tryd.prog 5 #[.int .i64 a0] w fun e w' => e = .returned (.bool r) ∧ Below w.heap.size w w' := by
 have HT := Aside0.mk hT
 clear hT
 have HB := Aside0.mk (Below.refl w.heap.size w)
 have H : ((spec_NextWithSum.f k a0).bind fun bt145 => ((impl_NextWithSum.f k a0).bind fun bt147 => (if bt147.1 = bt145.1 then (if (bt147.2 != bt145.2) = true then (some false) else (some true)) else (some false)))) = some r := h
 clear h
 replace H := Option.bind_eq_some_iff.mp H
 obtain ⟨⟨t145, t146⟩, A20, H⟩ := H
 dsimp only at H
 have A2 := Aside0.mk A20
 clear A20
 replace H := Option.bind_eq_some_iff.mp H
 obtain ⟨⟨t147, t148⟩, A30, H⟩ := H
 dsimp only at H
 have A3 := Aside0.mk A30
 clear A30
 by_cases c4 : t147 = t145
 rotate_left
 · exact dead_ (if_neg c4) H hr_
 rw [if_pos c4] at H
 have c4b0 : (t147 == t145) = true := beq_iff_eq.mpr c4
 have c4b1 : (t147 != t145) = false := bne_eq_false_iff_eq.mpr c4
 clear c4
 by_cases c5 : (t148 != t146) = true
 · exact dead_ (if_pos c5) H hr_
 rw [if_neg c5] at H
 have c5b0 : (t148 != t146) = false := by simpa using c5
 (try (have c5b1 : decide (t148 = t146) = true := by simpa using c5))
 (try (have c5b2 : (t148 == t146) = true := by simpa using c5))
 clear c5
 obtain rfl := Option.some.inj H
 go_enter Tryd.func5, Tryd.ntmps5
 go_wp2_with (first | ((with_reducible refine gate_callee (f := 19) rfl ?_); refine goesL_ (some 9) rfl rfl Tryd.func19 (by kernel_rfl) rfl #[.int .i64 a0] rfl z3_1_ ?_; (with_reducible refine (spec_NextWithSum.calls k a0 t145 t146 _ A2.out).mono ?_); rintro e w' ⟨rfl, ⟨nd, rfl⟩⟩; refine ⟨_, rfl, ?_⟩) | ((with_reducible refine gate_callee (f := 20) rfl ?_); refine goesL_ (some 14) rfl rfl Tryd.func20 (by kernel_rfl) rfl #[.int .i64 a0] rfl z3_1_ ?_; (with_reducible refine (impl_NextWithSum.calls k a0 t147 t148 _ ?side1 A3.out).mono ?_); (case side1 => exact Shelf.TabOk.below HT.out z3_0_); rintro e w6 ⟨rfl, hb⟩; refine ⟨_, rfl, ?_⟩; have n0_ := Aside0.mk (below_step z3_0_ hb); clear HB; have HB := n0_; clear n0_; (try clear hb); (try clear hb2); (try clear hk); (try clear hi)))
 go_ret
 exact ⟨by first | rfl | (simp [errW_none, errW_some] <;> rfl) | (simp [*, errW_none, errW_some] <;> rfl), by repeat (first | (with_reducible first | exact HB.out | apply below_alloc | apply pw_below_drewN | apply below_drew1) | exact HB.out)⟩

/-- THE ONE PURE STATEMENT of laws_FnExactNextWithSum: yours. -/
def laws_FnExactNextWithSum.Pure : Prop := ∀ (a0 : Int), (Lit.int .i64 a0).wf = true → ∃ k, laws_FnExactNextWithSum.f k a0 = some true
theorem laws_FnExactNextWithSum.walk (P : laws_FnExactNextWithSum.Pure) (a0 : Int) (w : World) (hT : Shelf.TabOk w) (w0 : (Lit.int .i64 a0).wf = true) :
 Calls Tryd.prog 5 #[.int .i64 a0] w fun e w' => e = .returned (.bool true) ∧ Below w.heap.size w w' := by
 obtain ⟨k, h⟩ := P a0 w0
 refine (laws_FnExactNextWithSum.calls k a0 true w hT (Aside0.mk rfl) h).mono ?_
 rintro e w' ⟨rfl, hd⟩
 exact ⟨rfl, hd⟩

end Go.Proofs.YtjhmocngcnnfdaaDoor.PFnExactNextWithSum

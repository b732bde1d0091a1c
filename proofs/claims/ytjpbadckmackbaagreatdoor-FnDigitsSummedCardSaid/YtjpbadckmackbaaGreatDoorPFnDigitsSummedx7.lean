-- Laid by this session's program gprint.py over the kit's print.
import Derived.Test.YtjpbadckmackbaaGreatDoorPFnDigitsSummedx0
import Derived.Test.YtjpbadckmackbaaGreatDoorPFnDigitsSummedx1
import Derived.Test.YtjpbadckmackbaaGreatDoorPFnDigitsSummedx2
import Derived.Test.YtjpbadckmackbaaGreatDoorPFnDigitsSummedx3
import Derived.Test.YtjpbadckmackbaaGreatDoorPFnDigitsSummedx4
import Derived.Test.YtjpbadckmackbaaGreatDoorPFnDigitsSummedx6
namespace Go.Proofs.YtjpbadckmackbaaGreatDoor.PFnDigitsSummed
open Go.RowKit Go.Proofs.YtjpbadckmackbaaGreatDoorW.PrintWords Go.Proofs.YtjpbadckmackbaaGreatDoorW.PrintLast Go.Proofs.YtjpbadckmackbaaGreatDoorW.PrintMore
attribute [local go_sem] max2_int min2_int max_two min_two max_three min_three max_four min_four   -- for this text's walks alone
set_option linter.unusedVariables false
set_option linter.unusedSimpArgs false
theorem z7_0_ {p : Prop} (h : p := by repeat (first | (with_reducible first | exact HB.out | apply below_alloc | apply pw_below_drewN | apply below_drew1) | exact HB.out)) : p := h
theorem z7_1_ {p : Prop} (h : p := by (try simp only [List.map_toArray, List.map_cons, List.map_nil]); first | done | rfl | (simp only [List.length_drop, List.length_take]; rfl)) : p := h
theorem z7_2_ {p : Prop} (h : p := by first | rfl | (simp; done) | (simp [*]; done)) : p := h
theorem z7_3_ {p : Prop} (h : p := by first | (with_reducible assumption) | assumption) : p := h

/-! ### spec_diWithout: function 50 -/
-- behind 61
theorem spec_diWithout.iter_below {w w' : World} {g : Nat} {s : ByteArray} {p : Nat} (hk : w.heap[g]? = some (.stringIter s p)) (h : Below w.heap.size w w') : w'.heap[g]? = some (.stringIter s p) := by
 have hlt : g < w.heap.size := (Array.getElem?_eq_some_iff.1 hk).1
 rw [h.block g hlt]; exact hk
theorem spec_diWithout.byte (s : ByteArray) (i : Nat) (h : i < s.size) : bt s (i : Int) = ((s[i]'h).toNat : Int) := by
 unfold bt
 rw [dif_pos (by rw [Int.toNat_natCast]; exact h)]
 simp only [Int.toNat_natCast]
theorem spec_diWithout.wrapn (n : Nat) (h : n < 4611686018427387904) : wrap64 ((n : Int) + 1) = ((n + 1 : Nat) : Int) := by simp [wrap64]; omega
mutual
def spec_diWithout.j0 : Nat → Int → Int → ByteArray → Int → Int → Option (Int)
 | 0, _, _, _, _, _ => none
 | k + 1, x0, x1, x5, x6, x7 => spec_diWithout.l0 k x0 x1 x5 x6 x7 1
def spec_diWithout.l0 : Nat → Int → Int → ByteArray → Int → Int → Int → Option (Int)
 | 0, _, _, _, _, _, _ => none
 | k + 1, x0, x1, x5, x6, x7, x8 => if x8 < (x5.size : Int) then (spec_diWithout.l0 k x0 x1 x5 (wrap64 (x6 + x7)) (wrap64 (x7 * 9)) (wrap64 (x8 + 1))) else (spec_diWithout.l1 k x0 x1 x5 x6 x5 0)
def spec_diWithout.l1 : Nat → Int → Int → ByteArray → Int → ByteArray → Int → Option (Int)
 | 0, _, _, _, _, _, _ => none
 | k + 1, x0, x1, x5, x6, x28, x29 => if x29 < (x28.size : Int) then (if bt x28 x29 < 128 ∧ x29 < 4611686018427387904 then (spec_diWithout.l2 k x0 x1 x5 x6 x29 1 (wrap64 (x29 + 1)) x28 x29) else none) else (if x0 = 0 then (some 0) else (some (wrap64 (x6 + 1))))
def spec_diWithout.l2 : Nat → Int → Int → ByteArray → Int → Int → Int → Int → ByteArray → Int → Option (Int)
 | 0, _, _, _, _, _, _, _, _, _ => none
 | k + 1, x0, x1, x5, x6, x9, x10, x11, x28, x29 => if x11 < (x5.size : Int) then (spec_diWithout.l2 k x0 x1 x5 x6 x9 (wrap64 (x10 * 9)) (wrap64 (x11 + 1)) x28 x29) else (spec_diWithout.l3 k x0 x1 x5 x6 x9 x10 0 x28 x29)
def spec_diWithout.l3 : Nat → Int → Int → ByteArray → Int → Int → Int → Int → ByteArray → Int → Option (Int)
 | 0, _, _, _, _, _, _, _, _, _ => none
 | k + 1, x0, x1, x5, x6, x9, x10, x12, x28, x29 => if 0 ≤ x9 then (if x9 < (x5.size : Int) then (if x12 < (((bt x5 x9) - 48) % 256) then (if x12 = x1 then (spec_diWithout.l3 k x0 x1 x5 x6 x9 x10 (wrap64 (x12 + 1)) x28 x29) else (if x9 > 0 then (spec_diWithout.l3 k x0 x1 x5 (wrap64 (x6 + x10)) x9 x10 (wrap64 (x12 + 1)) x28 x29) else (if x12 > 0 then (spec_diWithout.l3 k x0 x1 x5 (wrap64 (x6 + x10)) x9 x10 (wrap64 (x12 + 1)) x28 x29) else (spec_diWithout.l3 k x0 x1 x5 x6 x9 x10 (wrap64 (x12 + 1)) x28 x29)))) else (if (((bt x5 x9) - 48) % 256) = x1 then (some x6) else (spec_diWithout.l1 k x0 x1 x5 x6 x28 (wrap64 (x29 + 1))))) else (none)) else (none)
end
def spec_diWithout.f (k : Nat) (a0 : Int) (a1 : Int) : Option (Int) := (spec_l1Num.f k a0).bind fun t298 => (if a1 = 0 then (spec_diWithout.j0 k a0 a1 t298 0 9) else (spec_diWithout.j0 k a0 a1 t298 0 8))
theorem spec_diWithout.mono_l : ∀ k, (∀ y0 y1 y2 y3 y4, LeO (spec_diWithout.j0 k y0 y1 y2 y3 y4) (spec_diWithout.j0 (k + 1) y0 y1 y2 y3 y4)) ∧ (∀ y0 y1 y2 y3 y4 y5, LeO (spec_diWithout.l0 k y0 y1 y2 y3 y4 y5) (spec_diWithout.l0 (k + 1) y0 y1 y2 y3 y4 y5)) ∧ (∀ y0 y1 y2 y3 y4 y5, LeO (spec_diWithout.l1 k y0 y1 y2 y3 y4 y5) (spec_diWithout.l1 (k + 1) y0 y1 y2 y3 y4 y5)) ∧ (∀ y0 y1 y2 y3 y4 y5 y6 y7 y8, LeO (spec_diWithout.l2 k y0 y1 y2 y3 y4 y5 y6 y7 y8) (spec_diWithout.l2 (k + 1) y0 y1 y2 y3 y4 y5 y6 y7 y8)) ∧ (∀ y0 y1 y2 y3 y4 y5 y6 y7 y8, LeO (spec_diWithout.l3 k y0 y1 y2 y3 y4 y5 y6 y7 y8) (spec_diWithout.l3 (k + 1) y0 y1 y2 y3 y4 y5 y6 y7 y8))
 | 0 => ⟨fun _ _ _ _ _ r h => by simp [spec_diWithout.j0] at h, fun _ _ _ _ _ _ r h => by simp [spec_diWithout.l0] at h, fun _ _ _ _ _ _ r h => by simp [spec_diWithout.l1] at h, fun _ _ _ _ _ _ _ _ _ r h => by simp [spec_diWithout.l2] at h, fun _ _ _ _ _ _ _ _ _ r h => by simp [spec_diWithout.l3] at h⟩
 | k + 1 => by
  obtain ⟨ih0, ih1, ih2, ih3, ih4⟩ := spec_diWithout.mono_l k
  refine ⟨?_, ?_, ?_, ?_, ?_⟩
  · intro y0 y1 y2 y3 y4
    unfold spec_diWithout.j0
    repeat' first
    | (with_reducible exact ih0 _ _ _ _ _)
    | (with_reducible exact ih1 _ _ _ _ _ _)
    | (with_reducible exact ih2 _ _ _ _ _ _)
    | (with_reducible exact ih3 _ _ _ _ _ _ _ _ _)
    | (with_reducible exact ih4 _ _ _ _ _ _ _ _ _)
    | (with_reducible exact spec_l1Num.mono _ _)
    | (with_reducible exact LeO.refl _)
    | (with_reducible exact LeO.none _)
    | (with_reducible refine LeO.ite ?_ ?_)
    | (with_reducible refine LeO.bind ?_ (fun _ => ?_))
    | exact ih0 _ _ _ _ _
    | exact ih1 _ _ _ _ _ _
    | exact ih2 _ _ _ _ _ _
    | exact ih3 _ _ _ _ _ _ _ _ _
    | exact ih4 _ _ _ _ _ _ _ _ _
    | exact spec_l1Num.mono _ _
    | exact LeO.none _
    | refine LeO.ite ?_ ?_
    | refine LeO.bind ?_ (fun _ => ?_)
  · intro y0 y1 y2 y3 y4 y5
    unfold spec_diWithout.l0
    repeat' first
    | (with_reducible exact ih0 _ _ _ _ _)
    | (with_reducible exact ih1 _ _ _ _ _ _)
    | (with_reducible exact ih2 _ _ _ _ _ _)
    | (with_reducible exact ih3 _ _ _ _ _ _ _ _ _)
    | (with_reducible exact ih4 _ _ _ _ _ _ _ _ _)
    | (with_reducible exact spec_l1Num.mono _ _)
    | (with_reducible exact LeO.refl _)
    | (with_reducible exact LeO.none _)
    | (with_reducible refine LeO.ite ?_ ?_)
    | (with_reducible refine LeO.bind ?_ (fun _ => ?_))
    | exact ih0 _ _ _ _ _
    | exact ih1 _ _ _ _ _ _
    | exact ih2 _ _ _ _ _ _
    | exact ih3 _ _ _ _ _ _ _ _ _
    | exact ih4 _ _ _ _ _ _ _ _ _
    | exact spec_l1Num.mono _ _
    | exact LeO.none _
    | refine LeO.ite ?_ ?_
    | refine LeO.bind ?_ (fun _ => ?_)
  · intro y0 y1 y2 y3 y4 y5
    unfold spec_diWithout.l1
    repeat' first
    | (with_reducible exact ih0 _ _ _ _ _)
    | (with_reducible exact ih1 _ _ _ _ _ _)
    | (with_reducible exact ih2 _ _ _ _ _ _)
    | (with_reducible exact ih3 _ _ _ _ _ _ _ _ _)
    | (with_reducible exact ih4 _ _ _ _ _ _ _ _ _)
    | (with_reducible exact spec_l1Num.mono _ _)
    | (with_reducible exact LeO.refl _)
    | (with_reducible exact LeO.none _)
    | (with_reducible refine LeO.ite ?_ ?_)
    | (with_reducible refine LeO.bind ?_ (fun _ => ?_))
    | exact ih0 _ _ _ _ _
    | exact ih1 _ _ _ _ _ _
    | exact ih2 _ _ _ _ _ _
    | exact ih3 _ _ _ _ _ _ _ _ _
    | exact ih4 _ _ _ _ _ _ _ _ _
    | exact spec_l1Num.mono _ _
    | exact LeO.none _
    | refine LeO.ite ?_ ?_
    | refine LeO.bind ?_ (fun _ => ?_)
  · intro y0 y1 y2 y3 y4 y5 y6 y7 y8
    unfold spec_diWithout.l2
    repeat' first
    | (with_reducible exact ih0 _ _ _ _ _)
    | (with_reducible exact ih1 _ _ _ _ _ _)
    | (with_reducible exact ih2 _ _ _ _ _ _)
    | (with_reducible exact ih3 _ _ _ _ _ _ _ _ _)
    | (with_reducible exact ih4 _ _ _ _ _ _ _ _ _)
    | (with_reducible exact spec_l1Num.mono _ _)
    | (with_reducible exact LeO.refl _)
    | (with_reducible exact LeO.none _)
    | (with_reducible refine LeO.ite ?_ ?_)
    | (with_reducible refine LeO.bind ?_ (fun _ => ?_))
    | exact ih0 _ _ _ _ _
    | exact ih1 _ _ _ _ _ _
    | exact ih2 _ _ _ _ _ _
    | exact ih3 _ _ _ _ _ _ _ _ _
    | exact ih4 _ _ _ _ _ _ _ _ _
    | exact spec_l1Num.mono _ _
    | exact LeO.none _
    | refine LeO.ite ?_ ?_
    | refine LeO.bind ?_ (fun _ => ?_)
  intro y0 y1 y2 y3 y4 y5 y6 y7 y8
  unfold spec_diWithout.l3
  repeat' first
  | (with_reducible exact ih0 _ _ _ _ _)
  | (with_reducible exact ih1 _ _ _ _ _ _)
  | (with_reducible exact ih2 _ _ _ _ _ _)
  | (with_reducible exact ih3 _ _ _ _ _ _ _ _ _)
  | (with_reducible exact ih4 _ _ _ _ _ _ _ _ _)
  | (with_reducible exact spec_l1Num.mono _ _)
  | (with_reducible exact LeO.refl _)
  | (with_reducible exact LeO.none _)
  | (with_reducible refine LeO.ite ?_ ?_)
  | (with_reducible refine LeO.bind ?_ (fun _ => ?_))
  | exact ih0 _ _ _ _ _
  | exact ih1 _ _ _ _ _ _
  | exact ih2 _ _ _ _ _ _
  | exact ih3 _ _ _ _ _ _ _ _ _
  | exact ih4 _ _ _ _ _ _ _ _ _
  | exact spec_l1Num.mono _ _
  | exact LeO.none _
  | refine LeO.ite ?_ ?_
  | refine LeO.bind ?_ (fun _ => ?_)
theorem spec_diWithout.mono : ∀ a0 a1 k, LeO (spec_diWithout.f k a0 a1) (spec_diWithout.f (k + 1) a0 a1) := by
 intro a0 a1 k
 obtain ⟨ih0, ih1, ih2, ih3, ih4⟩ := spec_diWithout.mono_l k
 unfold spec_diWithout.f
 repeat' first
  | (with_reducible exact ih0 _ _ _ _ _)
  | (with_reducible exact ih1 _ _ _ _ _ _)
  | (with_reducible exact ih2 _ _ _ _ _ _)
  | (with_reducible exact ih3 _ _ _ _ _ _ _ _ _)
  | (with_reducible exact ih4 _ _ _ _ _ _ _ _ _)
  | (with_reducible exact spec_l1Num.mono _ _)
  | (with_reducible exact LeO.refl _)
  | (with_reducible exact LeO.none _)
  | (with_reducible refine LeO.ite ?_ ?_)
  | (with_reducible refine LeO.bind ?_ (fun _ => ?_))
  | exact ih0 _ _ _ _ _
  | exact ih1 _ _ _ _ _ _
  | exact ih2 _ _ _ _ _ _
  | exact ih3 _ _ _ _ _ _ _ _ _
  | exact ih4 _ _ _ _ _ _ _ _ _
  | exact spec_l1Num.mono _ _
  | exact LeO.none _
  | refine LeO.ite ?_ ?_
  | refine LeO.bind ?_ (fun _ => ?_)
set_option maxHeartbeats 8000000 in
set_option maxRecDepth 100000 in
theorem spec_diWithout.calls (k : Nat) (a0 : Int) (a1 : Int) (r : Int) (w : World) (h : spec_diWithout.f k a0 a1 = some r) :
 Calls Tryz.prog 50 #[.int .i64 a0, .int .i64 a1] w fun e w' => e = .returned (.int .i64 r) ∧ Below w.heap.size w w' := by
 have HB := Aside0.mk (Below.refl w.heap.size w)
 have H : ((spec_l1Num.f k a0).bind fun t298 => (if a1 = 0 then (spec_diWithout.j0 k a0 a1 t298 0 9) else (spec_diWithout.j0 k a0 a1 t298 0 8))) = some r := h
 clear h
 replace H := Option.bind_eq_some_iff.mp H
 obtain ⟨t298, A30, H⟩ := H
 have A3 := Aside0.mk A30
 clear A30
 have HC4 := Aside0.mk H
 clear H
 go_enter Tryz.func50, Tryz.ntmps50
 go_upto_if 16 with (first | ((with_reducible refine gate_callee (f := 61) rfl ?_); refine goesL_ (some 14) rfl rfl Tryz.func61 (by kernel_rfl) rfl #[.int .i64 a0] rfl z7_1_ ?_; (with_reducible refine (spec_l1Num.calls k a0 t298 _ A3.out).mono ?_); rintro e w5 ⟨rfl, hb⟩; refine ⟨_, rfl, ?_⟩; have n0_ := Aside0.mk (below_step z7_0_ hb); clear HB; have HB := n0_; clear n0_; (try clear hb); (try clear hb2); (try clear hk); (try clear hi)))
 (try simp only [Act.put, List.setIfInBounds_toArray, List.set_cons_zero, List.set_cons_succ])
 go_cut [7] (fun v7 wc => ∃ (kq : Nat) (x7_3 : Int), v7 = .int .i64 x7_3 ∧ Aside0 (spec_diWithout.j0 kq a0 a1 t298 0 x7_3 = some r) ∧ Aside0 (kq ≤ k) ∧ Aside0 (Below w.heap.size w wc))
 case first =>
  have H := HC4.out
  clear HC4
  by_cases c6 : a1 = 0
  · rw [if_pos c6] at H
    have c6b0 : (a1 == 0) = true := beq_iff_eq.mpr c6
    have c6b1 : (a1 != 0) = false := bne_eq_false_iff_eq.mpr c6
    clear c6
    (first | rw [c6b0] | (simp only [i64_w, i32_w]; rw [c6b0]) | skip)
    have H' := Aside0.mk H
    clear H
    go_wp2
    go_meet
    case rel => exact ⟨_, (9), z7_2_, H', ⟨by first | omega | exact Nat.le_refl _⟩, ⟨by repeat (first | (with_reducible first | exact HB.out | apply below_alloc | apply pw_below_drewN | apply below_drew1) | exact HB.out)⟩⟩
  rw [if_neg c6] at H
  have c6b0 : (a1 == 0) = false := beq_eq_false_iff_ne.mpr c6
  have c6b1 : (a1 != 0) = true := bne_iff_ne.mpr c6
  (first | rw [c6b0] | (simp only [i64_w, i32_w]; rw [c6b0]) | skip)
  have H' := Aside0.mk H
  clear H
  go_wp2
  go_meet
  case rel => exact ⟨_, (8), z7_2_, H', ⟨by first | omega | exact Nat.le_refl _⟩, ⟨by repeat (first | (with_reducible first | exact HB.out | apply below_alloc | apply pw_below_drewN | apply below_drew1) | exact HB.out)⟩⟩
 case rest =>
  clear HC4
  (try clear p2);(try clear c5);(try clear c6);(try clear c6b0);(try clear c6b1)
  obtain ⟨kq, x7_3, rfl, HA, HJ3, HB⟩ := hcut
  cases kq with
  | zero => exact absurd HA.out (by simp [spec_diWithout.j0])
  | succ kj3 =>
   have H := HA.out
   clear HA
   simp only [spec_diWithout.j0] at H
   have H' := Aside0.mk H
   clear H
   go_wp2
   go_loopg [6, 7, 8] kj3 (fun kq v6 v7 v8 w' => ∃ (x6_2 : Int) (x7_2 : Int) (x8_2 : Int), v6 = .int .i64 x6_2 ∧ v7 = .int .i64 x7_2 ∧ v8 = .int .i64 x8_2 ∧ Aside0 (spec_diWithout.l0 kq a0 a1 t298 x6_2 x7_2 x8_2 = some r) ∧ Aside0 (kq ≤ kj3) ∧ Aside0 (Below w.heap.size w w'))
   case atStart => exact ⟨(0), (x7_3), (1), z7_2_, z7_2_, z7_2_, H', ⟨Nat.le_refl _⟩, ⟨by repeat (first | (with_reducible first | exact HB.out | apply below_alloc | apply pw_below_drewN | apply below_drew1) | exact HB.out)⟩⟩
   case round =>
    clear H'
    (try clear p2);(try clear c5);(try clear c6);(try clear c6b0);(try clear c6b1);(try clear p2)
    obtain ⟨x6_2, x7_2, x8_2, rfl, rfl, rfl, HA, HK2, HB⟩ := hrel
    cases gk with
    | zero => exact absurd HA.out (by simp [spec_diWithout.l0])
    | succ k2 =>
     have H := HA.out
     clear HA
     simp only [spec_diWithout.l0] at H
     by_cases c7 : x8_2 < (t298.size : Int)
     · rw [if_pos c7] at H
       have c7b0 : decide (x8_2 < (t298.size : Int)) = true := decide_eq_true c7
       clear c7
       have H' := Aside0.mk H
       clear H
       go_wp2
       go_roundg k2
       case measure => have := HJ3.out; have := HK2.out; omega
       case rel => exact ⟨(wrap64 (x6_2 + x7_2)), (wrap64 (x7_2 * 9)), (wrap64 (x8_2 + 1)), z7_2_, z7_2_, z7_2_, H', ⟨by have := HJ3.out; have := HK2.out; omega⟩, ⟨by repeat (first | (with_reducible first | exact HB.out | apply below_alloc | apply pw_below_drewN | apply below_drew1) | exact HB.out)⟩⟩
     rw [if_neg c7] at H
     have c7b0 : decide (x8_2 < (t298.size : Int)) = false := decide_eq_false c7
     clear c7
     have H' := Aside0.mk H
     clear H
     obtain ⟨wo, hwo⟩ : ∃ wo, wo = wr := ⟨_, rfl⟩
     subst hwo
     have HZ := Aside0.mk (below_size HB.out)
     go_wp2
     go_loopg [6] k2 (fun kq v6 w' => ∃ (x6_3 : Int) (x29_3 : Int) (n29 : Nat), v6 = .int .i64 x6_3 ∧ Aside0 (x29_3 = (n29 : Int)) ∧ Aside0 (w'.heap[wo.heap.size]? = some (.stringIter t298 n29)) ∧ Aside0 (spec_diWithout.l1 kq a0 a1 t298 x6_3 t298 x29_3 = some r) ∧ Aside0 (kq ≤ k2) ∧ Aside0 (Below w.heap.size w w'))
     case atStart => exact ⟨(x6_2), (0), 0, z7_2_, ⟨rfl⟩, ⟨World.iter_heap _ t298 0⟩, H', ⟨Nat.le_refl _⟩, ⟨below_alloc HB.out (.stringIter t298 0)⟩⟩
     case round =>
      clear H'
      (try clear p2);(try clear c5);(try clear c6);(try clear c6b0);(try clear c6b1);(try clear p6);(try clear c7);(try clear c7b0);(try clear p2)
      obtain ⟨x6_3, x29_3, n29, rfl, HN, HI, HA, HK3, HB⟩ := hrel
      cases gk with
      | zero => exact absurd HA.out (by simp [spec_diWithout.l1])
      | succ k3 =>
       have H := HA.out
       clear HA
       simp only [spec_diWithout.l1] at H
       by_cases c8 : x29_3 < (t298.size : Int)
       · rw [if_pos c8] at H
         have hc : n29 < t298.size := by have := HN.out; omega
         have c8b0 : decide (x29_3 < (t298.size : Int)) = true := decide_eq_true c8
         clear c8
         by_cases ca : bt t298 x29_3 < 128 ∧ x29_3 < 4611686018427387904
         rotate_left
         · exact none_ (if_neg ca) H
         rw [if_pos ca] at H
         have hs : n29 < 4611686018427387904 := by have := HN.out; have := ca.2; omega
         have ha : (t298[n29]'hc).toNat < 128 := by have h_ := ca.1; rw [HN.out, spec_diWithout.byte t298 n29 hc] at h_; omega
         have hnx := fun ty => Lib.run_next_ascii_at (P := Tryz.prog) wr wo.heap.size t298 n29 ty HI.out hc ha
         rw [← HN.out] at hnx
         have HB1 := Aside0.mk (Lib.below_iterAt HB.out HZ.out t298 (n29 + 1))
         have HI1 := Aside0.mk (Lib.iterAt_heap wr wo.heap.size t298 n29 (n29 + 1) HI.out)
         have HS := Aside0.mk hs
         clear HB HI ca ha hs
         generalize wr.iterAt wo.heap.size t298 (n29 + 1) = wr1 at hnx HB1 HI1
         have HB := HB1
         have HI := HI1
         clear HB1 HI1
         have H' := Aside0.mk H
         clear H
         go_wp2
         clear hnx
         go_loopg [10, 11] k3 (fun kq v10 v11 w' => ∃ (x10_4 : Int) (x11_4 : Int), v10 = .int .i64 x10_4 ∧ v11 = .int .i64 x11_4 ∧ Aside0 (w'.heap[wo.heap.size]? = some (.stringIter t298 (n29 + 1))) ∧ Aside0 (spec_diWithout.l2 kq a0 a1 t298 x6_3 x29_3 x10_4 x11_4 t298 x29_3 = some r) ∧ Aside0 (kq ≤ k3) ∧ Aside0 (Below w.heap.size w w'))
         case atStart => exact ⟨(1), (wrap64 (x29_3 + 1)), z7_2_, z7_2_, ⟨by first | exact HI.out | exact spec_diWithout.iter_below HI.out (pw_below_drewN (Below.refl _ _) _) | exact spec_diWithout.iter_below (spec_diWithout.iter_below HI.out (pw_below_drewN (Below.refl _ _) _)) (pw_below_drewN (Below.refl _ _) _)⟩, H', ⟨Nat.le_refl _⟩, ⟨by repeat (first | (with_reducible first | exact HB.out | apply below_alloc | apply pw_below_drewN | apply below_drew1) | exact HB.out)⟩⟩
         case round =>
          clear H'
          (try clear p2);(try clear c5);(try clear c6);(try clear c6b0);(try clear c6b1);(try clear p6);(try clear c7);(try clear c7b0);(try clear c8);(try clear c8b0);(try clear p2);(try clear p6)
          obtain ⟨x10_4, x11_4, rfl, rfl, HI, HA, HK4, HB⟩ := hrel
          cases gk with
          | zero => exact absurd HA.out (by simp [spec_diWithout.l2])
          | succ k4 =>
           have H := HA.out
           clear HA
           simp only [spec_diWithout.l2] at H
           by_cases c9 : x11_4 < (t298.size : Int)
           · rw [if_pos c9] at H
             have c9b0 : decide (x11_4 < (t298.size : Int)) = true := decide_eq_true c9
             clear c9
             have H' := Aside0.mk H
             clear H
             go_wp2
             go_roundg k4
             case measure => have := HJ3.out; have := HK2.out; have := HK3.out; have := HK4.out; omega
             case rel => exact ⟨(wrap64 (x10_4 * 9)), (wrap64 (x11_4 + 1)), z7_2_, z7_2_, ⟨by first | exact HI.out | exact spec_diWithout.iter_below HI.out (pw_below_drewN (Below.refl _ _) _) | exact spec_diWithout.iter_below (spec_diWithout.iter_below HI.out (pw_below_drewN (Below.refl _ _) _)) (pw_below_drewN (Below.refl _ _) _)⟩, H', ⟨by have := HJ3.out; have := HK2.out; have := HK3.out; have := HK4.out; omega⟩, ⟨by repeat (first | (with_reducible first | exact HB.out | apply below_alloc | apply pw_below_drewN | apply below_drew1) | exact HB.out)⟩⟩
           rw [if_neg c9] at H
           have c9b0 : decide (x11_4 < (t298.size : Int)) = false := decide_eq_false c9
           clear c9
           have H' := Aside0.mk H
           clear H
           go_wp2
           go_loopg [6, 12] k4 (fun kq v6 v12 w' => ∃ (x6_5 : Int) (x12_5 : Int), v6 = .int .i64 x6_5 ∧ v12 = .int .i64 x12_5 ∧ Aside0 (w'.heap[wo.heap.size]? = some (.stringIter t298 (n29 + 1))) ∧ Aside0 (spec_diWithout.l3 kq a0 a1 t298 x6_5 x29_3 x10_4 x12_5 t298 x29_3 = some r) ∧ Aside0 (kq ≤ k4) ∧ Aside0 (Below w.heap.size w w'))
           case atStart => exact ⟨(x6_3), (0), z7_2_, z7_2_, ⟨by first | exact HI.out | exact spec_diWithout.iter_below HI.out (pw_below_drewN (Below.refl _ _) _) | exact spec_diWithout.iter_below (spec_diWithout.iter_below HI.out (pw_below_drewN (Below.refl _ _) _)) (pw_below_drewN (Below.refl _ _) _)⟩, H', ⟨Nat.le_refl _⟩, ⟨by repeat (first | (with_reducible first | exact HB.out | apply below_alloc | apply pw_below_drewN | apply below_drew1) | exact HB.out)⟩⟩
           case round =>
            clear H'
            (try clear p2);(try clear c5);(try clear c6);(try clear c6b0);(try clear c6b1);(try clear p6);(try clear c7);(try clear c7b0);(try clear c8);(try clear c8b0);(try clear c9);(try clear c9b0);(try clear p2);(try clear p6)
            obtain ⟨x6_5, x12_5, rfl, rfl, HI, HA, HK5, HB⟩ := hrel
            cases gk with
            | zero => exact absurd HA.out (by simp [spec_diWithout.l3])
            | succ k5 =>
             have H := HA.out
             clear HA
             simp only [spec_diWithout.l3] at H
             by_cases c10 : 0 ≤ x29_3
             rotate_left
             · exact none_ (if_neg c10) H
             rw [if_pos c10] at H
             have c10b0 : decide (0 ≤ x29_3) = true := decide_eq_true c10
             clear c10
             by_cases c11 : x29_3 < (t298.size : Int)
             rotate_left
             · exact none_ (if_neg c11) H
             rw [if_pos c11] at H
             have c11b0 : decide (x29_3 < (t298.size : Int)) = true := decide_eq_true c11
             clear c11
             by_cases c13 : x12_5 < (((bt t298 x29_3) - 48) % 256)
             · rw [if_pos c13] at H
               have c13b0 : decide (x12_5 < (((bt t298 x29_3) - 48) % 256)) = true := decide_eq_true c13
               clear c13
               by_cases c14 : x12_5 = a1
               · rw [if_pos c14] at H
                 have c14b0 : (x12_5 == a1) = true := beq_iff_eq.mpr c14
                 have c14b1 : (x12_5 != a1) = false := bne_eq_false_iff_eq.mpr c14
                 clear c14
                 have H' := Aside0.mk H
                 clear H
                 have p12 : 0 ≤ (x29_3 : Int) := of_decide_eq_true z7_3_
                 have q12 : x29_3 < (t298.size : Int) := of_decide_eq_true z7_3_
                 have hx12 := bt_at t298 x29_3
                 replace p12 := eq_true p12
                 replace q12 := eq_true q12
                 go_wp2
                 go_roundg k5
                 case measure => have := HJ3.out; have := HK2.out; have := HK3.out; have := HK4.out; have := HK5.out; omega
                 case rel => exact ⟨(x6_5), (wrap64 (x12_5 + 1)), z7_2_, z7_2_, ⟨by first | exact HI.out | exact spec_diWithout.iter_below HI.out (pw_below_drewN (Below.refl _ _) _) | exact spec_diWithout.iter_below (spec_diWithout.iter_below HI.out (pw_below_drewN (Below.refl _ _) _)) (pw_below_drewN (Below.refl _ _) _)⟩, H', ⟨by have := HJ3.out; have := HK2.out; have := HK3.out; have := HK4.out; have := HK5.out; omega⟩, ⟨by repeat (first | (with_reducible first | exact HB.out | apply below_alloc | apply pw_below_drewN | apply below_drew1) | exact HB.out)⟩⟩
               rw [if_neg c14] at H
               have c14b0 : (x12_5 == a1) = false := beq_eq_false_iff_ne.mpr c14
               have c14b1 : (x12_5 != a1) = true := bne_iff_ne.mpr c14
               by_cases c15 : x29_3 > 0
               · rw [if_pos c15] at H
                 have c15b0 : decide (0 < x29_3) = true := decide_eq_true c15
                 clear c15
                 have H' := Aside0.mk H
                 clear H
                 have p12 : 0 ≤ (x29_3 : Int) := of_decide_eq_true z7_3_
                 have q12 : x29_3 < (t298.size : Int) := of_decide_eq_true z7_3_
                 have hx12 := bt_at t298 x29_3
                 replace p12 := eq_true p12
                 replace q12 := eq_true q12
                 go_wp2
                 go_roundg k5
                 case measure => have := HJ3.out; have := HK2.out; have := HK3.out; have := HK4.out; have := HK5.out; omega
                 case rel => exact ⟨(wrap64 (x6_5 + x10_4)), (wrap64 (x12_5 + 1)), z7_2_, z7_2_, ⟨by first | exact HI.out | exact spec_diWithout.iter_below HI.out (pw_below_drewN (Below.refl _ _) _) | exact spec_diWithout.iter_below (spec_diWithout.iter_below HI.out (pw_below_drewN (Below.refl _ _) _)) (pw_below_drewN (Below.refl _ _) _)⟩, H', ⟨by have := HJ3.out; have := HK2.out; have := HK3.out; have := HK4.out; have := HK5.out; omega⟩, ⟨by repeat (first | (with_reducible first | exact HB.out | apply below_alloc | apply pw_below_drewN | apply below_drew1) | exact HB.out)⟩⟩
               rw [if_neg c15] at H
               have c15b0 : decide (0 < x29_3) = false := decide_eq_false c15
               clear c15
               by_cases c16 : x12_5 > 0
               · rw [if_pos c16] at H
                 have c16b0 : decide (0 < x12_5) = true := decide_eq_true c16
                 clear c16
                 have H' := Aside0.mk H
                 clear H
                 have p12 : 0 ≤ (x29_3 : Int) := of_decide_eq_true z7_3_
                 have q12 : x29_3 < (t298.size : Int) := of_decide_eq_true z7_3_
                 have hx12 := bt_at t298 x29_3
                 replace p12 := eq_true p12
                 replace q12 := eq_true q12
                 go_wp2
                 go_roundg k5
                 case measure => have := HJ3.out; have := HK2.out; have := HK3.out; have := HK4.out; have := HK5.out; omega
                 case rel => exact ⟨(wrap64 (x6_5 + x10_4)), (wrap64 (x12_5 + 1)), z7_2_, z7_2_, ⟨by first | exact HI.out | exact spec_diWithout.iter_below HI.out (pw_below_drewN (Below.refl _ _) _) | exact spec_diWithout.iter_below (spec_diWithout.iter_below HI.out (pw_below_drewN (Below.refl _ _) _)) (pw_below_drewN (Below.refl _ _) _)⟩, H', ⟨by have := HJ3.out; have := HK2.out; have := HK3.out; have := HK4.out; have := HK5.out; omega⟩, ⟨by repeat (first | (with_reducible first | exact HB.out | apply below_alloc | apply pw_below_drewN | apply below_drew1) | exact HB.out)⟩⟩
               rw [if_neg c16] at H
               have c16b0 : decide (0 < x12_5) = false := decide_eq_false c16
               clear c16
               have H' := Aside0.mk H
               clear H
               have p12 : 0 ≤ (x29_3 : Int) := of_decide_eq_true z7_3_
               have q12 : x29_3 < (t298.size : Int) := of_decide_eq_true z7_3_
               have hx12 := bt_at t298 x29_3
               replace p12 := eq_true p12
               replace q12 := eq_true q12
               go_wp2
               go_roundg k5
               case measure => have := HJ3.out; have := HK2.out; have := HK3.out; have := HK4.out; have := HK5.out; omega
               case rel => exact ⟨(x6_5), (wrap64 (x12_5 + 1)), z7_2_, z7_2_, ⟨by first | exact HI.out | exact spec_diWithout.iter_below HI.out (pw_below_drewN (Below.refl _ _) _) | exact spec_diWithout.iter_below (spec_diWithout.iter_below HI.out (pw_below_drewN (Below.refl _ _) _)) (pw_below_drewN (Below.refl _ _) _)⟩, H', ⟨by have := HJ3.out; have := HK2.out; have := HK3.out; have := HK4.out; have := HK5.out; omega⟩, ⟨by repeat (first | (with_reducible first | exact HB.out | apply below_alloc | apply pw_below_drewN | apply below_drew1) | exact HB.out)⟩⟩
             rw [if_neg c13] at H
             have c13b0 : decide (x12_5 < (((bt t298 x29_3) - 48) % 256)) = false := decide_eq_false c13
             clear c13
             by_cases c18 : (((bt t298 x29_3) - 48) % 256) = a1
             · rw [if_pos c18] at H
               have c18b0 : ((((bt t298 x29_3) - 48) % 256) == a1) = true := beq_iff_eq.mpr c18
               have c18b1 : ((((bt t298 x29_3) - 48) % 256) != a1) = false := bne_eq_false_iff_eq.mpr c18
               clear c18
               obtain rfl := Option.some.inj H
               have p12 : 0 ≤ (x29_3 : Int) := of_decide_eq_true z7_3_
               have q12 : x29_3 < (t298.size : Int) := of_decide_eq_true z7_3_
               have hx12 := bt_at t298 x29_3
               replace p12 := eq_true p12
               replace q12 := eq_true q12
               have p17 : 0 ≤ (x29_3 : Int) := of_decide_eq_true z7_3_
               have q17 : x29_3 < (t298.size : Int) := of_decide_eq_true z7_3_
               have hx17 := bt_at t298 x29_3
               replace p17 := eq_true p17
               replace q17 := eq_true q17
               go_wp2
               go_ret
               exact ⟨by first | rfl | (simp [errW_none, errW_some] <;> rfl) | (simp [*, errW_none, errW_some] <;> rfl), by repeat (first | (with_reducible first | exact HB.out | apply below_alloc | apply pw_below_drewN | apply below_drew1) | exact HB.out)⟩
             rw [if_neg c18] at H
             have c18b0 : ((((bt t298 x29_3) - 48) % 256) == a1) = false := beq_eq_false_iff_ne.mpr c18
             have c18b1 : ((((bt t298 x29_3) - 48) % 256) != a1) = true := bne_iff_ne.mpr c18
             have H' := Aside0.mk H
             clear H
             have p12 : 0 ≤ (x29_3 : Int) := of_decide_eq_true z7_3_
             have q12 : x29_3 < (t298.size : Int) := of_decide_eq_true z7_3_
             have hx12 := bt_at t298 x29_3
             replace p12 := eq_true p12
             replace q12 := eq_true q12
             have p17 : 0 ≤ (x29_3 : Int) := of_decide_eq_true z7_3_
             have q17 : x29_3 < (t298.size : Int) := of_decide_eq_true z7_3_
             have hx17 := bt_at t298 x29_3
             replace p17 := eq_true p17
             replace q17 := eq_true q17
             go_wp2
             go_roundg k5
             case measure => have := HJ3.out; have := HK2.out; have := HK3.out; have := HK4.out; have := HK5.out; omega
             case rel => exact ⟨(x6_5), (wrap64 (x29_3 + 1)), n29 + 1, z7_2_, ⟨by rw [HN.out]; exact spec_diWithout.wrapn n29 HS.out⟩, ⟨HI.out⟩, H', ⟨by have := HJ3.out; have := HK2.out; have := HK3.out; have := HK4.out; have := HK5.out; omega⟩, ⟨by repeat (first | (with_reducible first | exact HB.out | apply below_alloc | apply pw_below_drewN | apply below_drew1) | exact HB.out)⟩⟩
       rw [if_neg c8] at H
       have hnx := fun ty => Lib.run_next_end_at (P := Tryz.prog) wr wo.heap.size t298 n29 ty HI.out (by have := HN.out; omega)
       have c8b0 : decide (x29_3 < (t298.size : Int)) = false := decide_eq_false c8
       clear c8
       by_cases c19 : a0 = 0
       · rw [if_pos c19] at H
         have c19b0 : (a0 == 0) = true := beq_iff_eq.mpr c19
         have c19b1 : (a0 != 0) = false := bne_eq_false_iff_eq.mpr c19
         clear c19
         obtain rfl := Option.some.inj H
         go_wp2
         go_ret
         exact ⟨by first | rfl | (simp [errW_none, errW_some] <;> rfl) | (simp [*, errW_none, errW_some] <;> rfl), by repeat (first | (with_reducible first | exact HB.out | apply below_alloc | apply pw_below_drewN | apply below_drew1) | exact HB.out)⟩
       rw [if_neg c19] at H
       have c19b0 : (a0 == 0) = false := beq_eq_false_iff_ne.mpr c19
       have c19b1 : (a0 != 0) = true := bne_iff_ne.mpr c19
       obtain rfl := Option.some.inj H
       go_wp2
       go_ret
       exact ⟨by first | rfl | (simp [errW_none, errW_some] <;> rfl) | (simp [*, errW_none, errW_some] <;> rfl), by repeat (first | (with_reducible first | exact HB.out | apply below_alloc | apply pw_below_drewN | apply below_drew1) | exact HB.out)⟩

/-! ### spec_CountWithout: function 24 -/
def spec_CountWithout.f (k : Nat) (a0 : Int) (a1 : Int) : Option (Int × Bool) := (spec_diGood.f a0).bind fun t291 => (if t291 = true then ((spec_diDigit.f a1).bind fun t292 => (if t292 = true then ((spec_diWithout.f k a0 a1).bind fun t293 => (some (t293, true))) else (some (0, false)))) else (some (0, false)))
theorem spec_CountWithout.mono : ∀ a0 a1 k, LeO (spec_CountWithout.f k a0 a1) (spec_CountWithout.f (k + 1) a0 a1) := by
 intro a0 a1 k
 unfold spec_CountWithout.f
 repeat' first
  | (with_reducible exact spec_diWithout.mono _ _ _)
  | (with_reducible exact LeO.refl _)
  | (with_reducible exact LeO.none _)
  | (with_reducible refine LeO.ite ?_ ?_)
  | (with_reducible refine LeO.bind ?_ (fun _ => ?_))
  | exact spec_diWithout.mono _ _ _
  | exact LeO.none _
  | refine LeO.ite ?_ ?_
  | refine LeO.bind ?_ (fun _ => ?_)
set_option maxHeartbeats 8000000 in
set_option maxRecDepth 100000 in
theorem spec_CountWithout.calls (k : Nat) (a0 : Int) (a1 : Int) (r1 : Int) (r2 : Bool) (w : World) (h : spec_CountWithout.f k a0 a1 = some (r1, r2)) :
 Calls Tryz.prog 24 #[.int .i64 a0, .int .i64 a1] w fun e w' => e = .returned (.tuple #[.int .i64 r1, .bool r2]) ∧ Below w.heap.size w w' := by
 have HB := Aside0.mk (Below.refl w.heap.size w)
 have H : ((spec_diGood.f a0).bind fun t291 => (if t291 = true then ((spec_diDigit.f a1).bind fun t292 => (if t292 = true then ((spec_diWithout.f k a0 a1).bind fun t293 => (some (t293, true))) else (some (0, false)))) else (some (0, false)))) = some (r1, r2) := h
 clear h
 replace H := Option.bind_eq_some_iff.mp H
 obtain ⟨t291, A30, H⟩ := H
 have A3 := Aside0.mk A30
 clear A30
 by_cases c4 : t291 = true
 · subst c4
   have H1 : ((spec_diDigit.f a1).bind fun t292 => (if t292 = true then ((spec_diWithout.f k a0 a1).bind fun t293 => (some (t293, true))) else (some (0, false)))) = some (r1, r2) := by rw [if_pos rfl] at H; exact H
   clear H
   have H := H1
   clear H1
   replace H := Option.bind_eq_some_iff.mp H
   obtain ⟨t292, A50, H⟩ := H
   have A5 := Aside0.mk A50
   clear A50
   by_cases c6 : t292 = true
   · subst c6
     have H1 : ((spec_diWithout.f k a0 a1).bind fun t293 => (some (t293, true))) = some (r1, r2) := by rw [if_pos rfl] at H; exact H
     clear H
     have H := H1
     clear H1
     replace H := Option.bind_eq_some_iff.mp H
     obtain ⟨t293, A70, H⟩ := H
     have A7 := Aside0.mk A70
     clear A70
     simp only [Option.some.injEq, Prod.mk.injEq] at H
     obtain ⟨rfl, rfl⟩ := H
     go_enter Tryz.func24, Tryz.ntmps24
     go_wp2_with (first | ((with_reducible refine gate_callee (f := 39) rfl ?_); refine goesL_ (some 7) rfl rfl Tryz.func39 (by kernel_rfl) rfl #[.int .i64 a0] rfl z7_1_ ?_; (with_reducible refine (spec_diGood.calls a0 true _ A3.out).mono ?_); rintro e w' ⟨rfl, ⟨nd, rfl⟩⟩; refine ⟨_, rfl, ?_⟩) | (go_at_call 49; (with_reducible refine (spec_diDigit.calls a1 true _ A5.out).mono ?_); rintro e w' ⟨rfl, ⟨nd, rfl⟩⟩) | ((with_reducible refine gate_callee (f := 50) rfl ?_); refine goesL_ (some 16) rfl rfl Tryz.func50 (by kernel_rfl) rfl #[.int .i64 a0, .int .i64 a1] rfl z7_1_ ?_; (with_reducible refine (spec_diWithout.calls k a0 a1 t293 _ A7.out).mono ?_); rintro e w8 ⟨rfl, hb⟩; refine ⟨_, rfl, ?_⟩; have n0_ := Aside0.mk (below_step z7_0_ hb); clear HB; have HB := n0_; clear n0_; (try clear hb); (try clear hb2); (try clear hk); (try clear hi)))
     go_ret2
     exact ⟨by first | rfl | (simp [errW_none, errW_some] <;> rfl) | (simp [*, errW_none, errW_some] <;> rfl), by repeat (first | (with_reducible first | exact HB.out | apply below_alloc | apply pw_below_drewN | apply below_drew1) | exact HB.out)⟩
   replace c6 := Bool.eq_false_iff.mpr c6
   subst c6
   have H1 : (some (0, false)) = some (r1, r2) := by rw [if_neg (show ¬ (false = true) by decide)] at H; exact H
   clear H
   have H := H1
   clear H1
   simp only [Option.some.injEq, Prod.mk.injEq] at H
   obtain ⟨rfl, rfl⟩ := H
   go_enter Tryz.func24, Tryz.ntmps24
   go_wp2_with (first | ((with_reducible refine gate_callee (f := 39) rfl ?_); refine goesL_ (some 7) rfl rfl Tryz.func39 (by kernel_rfl) rfl #[.int .i64 a0] rfl z7_1_ ?_; (with_reducible refine (spec_diGood.calls a0 true _ A3.out).mono ?_); rintro e w' ⟨rfl, ⟨nd, rfl⟩⟩; refine ⟨_, rfl, ?_⟩) | (go_at_call 49; (with_reducible refine (spec_diDigit.calls a1 false _ A5.out).mono ?_); rintro e w' ⟨rfl, ⟨nd, rfl⟩⟩))
   go_ret2
   exact ⟨by first | rfl | (simp [errW_none, errW_some] <;> rfl) | (simp [*, errW_none, errW_some] <;> rfl), by repeat (first | (with_reducible first | exact HB.out | apply below_alloc | apply pw_below_drewN | apply below_drew1) | exact HB.out)⟩
 replace c4 := Bool.eq_false_iff.mpr c4
 subst c4
 have H1 : (some (0, false)) = some (r1, r2) := by rw [if_neg (show ¬ (false = true) by decide)] at H; exact H
 clear H
 have H := H1
 clear H1
 simp only [Option.some.injEq, Prod.mk.injEq] at H
 obtain ⟨rfl, rfl⟩ := H
 go_enter Tryz.func24, Tryz.ntmps24
 go_wp2_with (first | ((with_reducible refine gate_callee (f := 39) rfl ?_); refine goesL_ (some 7) rfl rfl Tryz.func39 (by kernel_rfl) rfl #[.int .i64 a0] rfl z7_1_ ?_; (with_reducible refine (spec_diGood.calls a0 false _ A3.out).mono ?_); rintro e w' ⟨rfl, ⟨nd, rfl⟩⟩; refine ⟨_, rfl, ?_⟩))
 go_ret2
 exact ⟨by first | rfl | (simp [errW_none, errW_some] <;> rfl) | (simp [*, errW_none, errW_some] <;> rfl), by repeat (first | (with_reducible first | exact HB.out | apply below_alloc | apply pw_below_drewN | apply below_drew1) | exact HB.out)⟩

/-! ### strings_Contains: function 51 -/
def strings_Contains.f (a0 a1 : ByteArray) : Option Bool := if a0.size < 4294967281 then some (Lib.contains a0.data.toList a1.data.toList) else none
theorem strings_Contains.calls (a0 a1 : ByteArray) (r : Bool) (w : World) (hT : Shelf.TabOk w) (h : strings_Contains.f a0 a1 = some r) :
 Calls Tryz.prog 51 #[.string a0, .string a1] w fun e w' => e = .returned (.bool r) ∧ Below w.heap.size w w' := by
 unfold strings_Contains.f at h
 by_cases h0 : a0.size < 4294967281
 rotate_left
 · exact none_ (if_neg h0) h
 rw [if_pos h0] at h
 obtain rfl := Option.some.inj h
 exact Shelf.Contains a0 a1 w hT h0

/-! ### impl_CountOfCounter: function 25 -/
def impl_CountOfCounter.f (k : Nat) (a0 : Int) (a1 : Int) : Option (Int × Bool) := (impl_within.f a0 1 1000000000000).bind fun t294 => (if t294 = true then ((impl_isDigit.f a1).bind fun t295 => (if t295 = true then ((strconv_Itoa.f a0).bind fun t296 => ((strconv_Itoa.f a1).bind fun t297 => ((strings_Contains.f t296 t297).bind fun t298 => (if t298 = true then (some (0, false)) else ((impl_without.f k a0 a1).bind fun t299 => (some (t299, true))))))) else (some (0, false)))) else (some (0, false)))
theorem impl_CountOfCounter.mono : ∀ a0 a1 k, LeO (impl_CountOfCounter.f k a0 a1) (impl_CountOfCounter.f (k + 1) a0 a1) := by
 intro a0 a1 k
 unfold impl_CountOfCounter.f
 repeat' first
  | (with_reducible exact impl_without.mono _ _ _)
  | (with_reducible exact LeO.refl _)
  | (with_reducible exact LeO.none _)
  | (with_reducible refine LeO.ite ?_ ?_)
  | (with_reducible refine LeO.bind ?_ (fun _ => ?_))
  | exact impl_without.mono _ _ _
  | exact LeO.none _
  | refine LeO.ite ?_ ?_
  | refine LeO.bind ?_ (fun _ => ?_)
set_option maxHeartbeats 8000000 in
set_option maxRecDepth 100000 in
theorem impl_CountOfCounter.calls (k : Nat) (a0 : Int) (a1 : Int) (r1 : Int) (r2 : Bool) (w : World) (hT : Shelf.TabOk w) (h : impl_CountOfCounter.f k a0 a1 = some (r1, r2)) :
 Calls Tryz.prog 25 #[.int .i64 a0, .int .i64 a1] w fun e w' => e = .returned (.tuple #[.int .i64 r1, .bool r2]) ∧ Below w.heap.size w w' := by
 have HT := Aside0.mk hT
 clear hT
 have HB := Aside0.mk (Below.refl w.heap.size w)
 have H : ((impl_within.f a0 1 1000000000000).bind fun t294 => (if t294 = true then ((impl_isDigit.f a1).bind fun t295 => (if t295 = true then ((strconv_Itoa.f a0).bind fun t296 => ((strconv_Itoa.f a1).bind fun t297 => ((strings_Contains.f t296 t297).bind fun t298 => (if t298 = true then (some (0, false)) else ((impl_without.f k a0 a1).bind fun t299 => (some (t299, true))))))) else (some (0, false)))) else (some (0, false)))) = some (r1, r2) := h
 clear h
 replace H := Option.bind_eq_some_iff.mp H
 obtain ⟨t294, A30, H⟩ := H
 have A3 := Aside0.mk A30
 clear A30
 by_cases c4 : t294 = true
 · subst c4
   have H1 : ((impl_isDigit.f a1).bind fun t295 => (if t295 = true then ((strconv_Itoa.f a0).bind fun t296 => ((strconv_Itoa.f a1).bind fun t297 => ((strings_Contains.f t296 t297).bind fun t298 => (if t298 = true then (some (0, false)) else ((impl_without.f k a0 a1).bind fun t299 => (some (t299, true))))))) else (some (0, false)))) = some (r1, r2) := by rw [if_pos rfl] at H; exact H
   clear H
   have H := H1
   clear H1
   replace H := Option.bind_eq_some_iff.mp H
   obtain ⟨t295, A50, H⟩ := H
   have A5 := Aside0.mk A50
   clear A50
   by_cases c6 : t295 = true
   · subst c6
     have H1 : ((strconv_Itoa.f a0).bind fun t296 => ((strconv_Itoa.f a1).bind fun t297 => ((strings_Contains.f t296 t297).bind fun t298 => (if t298 = true then (some (0, false)) else ((impl_without.f k a0 a1).bind fun t299 => (some (t299, true))))))) = some (r1, r2) := by rw [if_pos rfl] at H; exact H
     clear H
     have H := H1
     clear H1
     replace H := Option.bind_eq_some_iff.mp H
     obtain ⟨t296, A70, H⟩ := H
     have A7 := Aside0.mk A70
     clear A70
     replace H := Option.bind_eq_some_iff.mp H
     obtain ⟨t297, A80, H⟩ := H
     have A8 := Aside0.mk A80
     clear A80
     replace H := Option.bind_eq_some_iff.mp H
     obtain ⟨t298, A90, H⟩ := H
     have A9 := Aside0.mk A90
     clear A90
     by_cases c10 : t298 = true
     · subst c10
       have H1 : (some (0, false)) = some (r1, r2) := by rw [if_pos rfl] at H; exact H
       clear H
       have H := H1
       clear H1
       simp only [Option.some.injEq, Prod.mk.injEq] at H
       obtain ⟨rfl, rfl⟩ := H
       go_enter Tryz.func25, Tryz.ntmps25
       go_wp2_with (first | ((with_reducible refine gate_callee (f := 31) rfl ?_); refine goesL_ (some 7) rfl rfl Tryz.func31 (by kernel_rfl) rfl #[.int .i64 a0, .int .i64 1, .int .i64 1000000000000] rfl z7_1_ ?_; (with_reducible refine (impl_within.calls a0 1 1000000000000 true _ A3.out).mono ?_); rintro e w' ⟨rfl, ⟨nd, rfl⟩⟩; refine ⟨_, rfl, ?_⟩) | (go_at_call 47; (with_reducible refine (impl_isDigit.calls a1 true _ A5.out).mono ?_); rintro e w' ⟨rfl, ⟨nd, rfl⟩⟩) | (go_at_call 52; (with_reducible refine (strconv_Itoa.calls a0 t296 _ ?side1 A7.out).mono ?_); (case side1 => exact Shelf.TabOk.below HT.out z7_0_); rintro e w11 ⟨rfl, hb⟩; have n0_ := Aside0.mk (below_step z7_0_ hb); clear HB; have HB := n0_; clear n0_; (try clear hb); (try clear hb2); (try clear hk); (try clear hi)) | (go_at_call 52; (with_reducible refine (strconv_Itoa.calls a1 t297 _ ?side1 A8.out).mono ?_); (case side1 => exact Shelf.TabOk.below HT.out z7_0_); rintro e w12 ⟨rfl, hb⟩; have n0_ := Aside0.mk (below_step z7_0_ hb); clear HB; have HB := n0_; clear n0_; (try clear hb); (try clear hb2); (try clear hk); (try clear hi)) | (go_at_call 51; (with_reducible refine (strings_Contains.calls t296 t297 true _ ?side1 A9.out).mono ?_); (case side1 => exact Shelf.TabOk.below HT.out z7_0_); rintro e w13 ⟨rfl, hb⟩; have n0_ := Aside0.mk (below_step z7_0_ hb); clear HB; have HB := n0_; clear n0_; (try clear hb); (try clear hb2); (try clear hk); (try clear hi)))
       go_ret2
       exact ⟨by first | rfl | (simp [errW_none, errW_some] <;> rfl) | (simp [*, errW_none, errW_some] <;> rfl), by repeat (first | (with_reducible first | exact HB.out | apply below_alloc | apply pw_below_drewN | apply below_drew1) | exact HB.out)⟩
     replace c10 := Bool.eq_false_iff.mpr c10
     subst c10
     have H1 : ((impl_without.f k a0 a1).bind fun t299 => (some (t299, true))) = some (r1, r2) := by rw [if_neg (show ¬ (false = true) by decide)] at H; exact H
     clear H
     have H := H1
     clear H1
     replace H := Option.bind_eq_some_iff.mp H
     obtain ⟨t299, A140, H⟩ := H
     have A14 := Aside0.mk A140
     clear A140
     simp only [Option.some.injEq, Prod.mk.injEq] at H
     obtain ⟨rfl, rfl⟩ := H
     go_enter Tryz.func25, Tryz.ntmps25
     go_wp2_with (first | ((with_reducible refine gate_callee (f := 31) rfl ?_); refine goesL_ (some 7) rfl rfl Tryz.func31 (by kernel_rfl) rfl #[.int .i64 a0, .int .i64 1, .int .i64 1000000000000] rfl z7_1_ ?_; (with_reducible refine (impl_within.calls a0 1 1000000000000 true _ A3.out).mono ?_); rintro e w' ⟨rfl, ⟨nd, rfl⟩⟩; refine ⟨_, rfl, ?_⟩) | (go_at_call 47; (with_reducible refine (impl_isDigit.calls a1 true _ A5.out).mono ?_); rintro e w' ⟨rfl, ⟨nd, rfl⟩⟩) | (go_at_call 52; (with_reducible refine (strconv_Itoa.calls a0 t296 _ ?side1 A7.out).mono ?_); (case side1 => exact Shelf.TabOk.below HT.out z7_0_); rintro e w15 ⟨rfl, hb⟩; have n0_ := Aside0.mk (below_step z7_0_ hb); clear HB; have HB := n0_; clear n0_; (try clear hb); (try clear hb2); (try clear hk); (try clear hi)) | (go_at_call 52; (with_reducible refine (strconv_Itoa.calls a1 t297 _ ?side1 A8.out).mono ?_); (case side1 => exact Shelf.TabOk.below HT.out z7_0_); rintro e w16 ⟨rfl, hb⟩; have n0_ := Aside0.mk (below_step z7_0_ hb); clear HB; have HB := n0_; clear n0_; (try clear hb); (try clear hb2); (try clear hk); (try clear hi)) | (go_at_call 51; (with_reducible refine (strings_Contains.calls t296 t297 false _ ?side1 A9.out).mono ?_); (case side1 => exact Shelf.TabOk.below HT.out z7_0_); rintro e w17 ⟨rfl, hb⟩; have n0_ := Aside0.mk (below_step z7_0_ hb); clear HB; have HB := n0_; clear n0_; (try clear hb); (try clear hb2); (try clear hk); (try clear hi)) | ((with_reducible refine gate_callee (f := 48) rfl ?_); refine goesL_ (some 23) rfl rfl Tryz.func48 (by kernel_rfl) rfl #[.int .i64 a0, .int .i64 a1] rfl z7_1_ ?_; (with_reducible refine (impl_without.calls k a0 a1 t299 _ ?side1 A14.out).mono ?_); (case side1 => exact Shelf.TabOk.below HT.out z7_0_); rintro e w18 ⟨rfl, hb⟩; refine ⟨_, rfl, ?_⟩; have n0_ := Aside0.mk (below_step z7_0_ hb); clear HB; have HB := n0_; clear n0_; (try clear hb); (try clear hb2); (try clear hk); (try clear hi)))
     go_ret2
     exact ⟨by first | rfl | (simp [errW_none, errW_some] <;> rfl) | (simp [*, errW_none, errW_some] <;> rfl), by repeat (first | (with_reducible first | exact HB.out | apply below_alloc | apply pw_below_drewN | apply below_drew1) | exact HB.out)⟩
   replace c6 := Bool.eq_false_iff.mpr c6
   subst c6
   have H1 : (some (0, false)) = some (r1, r2) := by rw [if_neg (show ¬ (false = true) by decide)] at H; exact H
   clear H
   have H := H1
   clear H1
   simp only [Option.some.injEq, Prod.mk.injEq] at H
   obtain ⟨rfl, rfl⟩ := H
   go_enter Tryz.func25, Tryz.ntmps25
   go_wp2_with (first | ((with_reducible refine gate_callee (f := 31) rfl ?_); refine goesL_ (some 7) rfl rfl Tryz.func31 (by kernel_rfl) rfl #[.int .i64 a0, .int .i64 1, .int .i64 1000000000000] rfl z7_1_ ?_; (with_reducible refine (impl_within.calls a0 1 1000000000000 true _ A3.out).mono ?_); rintro e w' ⟨rfl, ⟨nd, rfl⟩⟩; refine ⟨_, rfl, ?_⟩) | (go_at_call 47; (with_reducible refine (impl_isDigit.calls a1 false _ A5.out).mono ?_); rintro e w' ⟨rfl, ⟨nd, rfl⟩⟩))
   go_ret2
   exact ⟨by first | rfl | (simp [errW_none, errW_some] <;> rfl) | (simp [*, errW_none, errW_some] <;> rfl), by repeat (first | (with_reducible first | exact HB.out | apply below_alloc | apply pw_below_drewN | apply below_drew1) | exact HB.out)⟩
 replace c4 := Bool.eq_false_iff.mpr c4
 subst c4
 have H1 : (some (0, false)) = some (r1, r2) := by rw [if_neg (show ¬ (false = true) by decide)] at H; exact H
 clear H
 have H := H1
 clear H1
 simp only [Option.some.injEq, Prod.mk.injEq] at H
 obtain ⟨rfl, rfl⟩ := H
 go_enter Tryz.func25, Tryz.ntmps25
 go_wp2_with (first | ((with_reducible refine gate_callee (f := 31) rfl ?_); refine goesL_ (some 7) rfl rfl Tryz.func31 (by kernel_rfl) rfl #[.int .i64 a0, .int .i64 1, .int .i64 1000000000000] rfl z7_1_ ?_; (with_reducible refine (impl_within.calls a0 1 1000000000000 false _ A3.out).mono ?_); rintro e w' ⟨rfl, ⟨nd, rfl⟩⟩; refine ⟨_, rfl, ?_⟩))
 go_ret2
 exact ⟨by first | rfl | (simp [errW_none, errW_some] <;> rfl) | (simp [*, errW_none, errW_some] <;> rfl), by repeat (first | (with_reducible first | exact HB.out | apply below_alloc | apply pw_below_drewN | apply below_drew1) | exact HB.out)⟩

/-! ### spec_CountOfCounter: function 26 -/
def spec_CountOfCounter.f (k : Nat) (a0 : Int) (a1 : Int) : Option (Int × Bool) := (spec_l1In.f a0 1 1000000000000).bind fun t300 => (if t300 = true then ((spec_diDigit.f a1).bind fun t301 => (if t301 = true then ((spec_diWithout.f k a0 a1).bind fun t302 => ((spec_diWithout.f k (wrap64 (a0 - 1)) a1).bind fun t303 => (if t302 = t303 then (some (0, false)) else ((spec_diWithout.f k a0 a1).bind fun t304 => (some (t304, true)))))) else (some (0, false)))) else (some (0, false)))
theorem spec_CountOfCounter.mono : ∀ a0 a1 k, LeO (spec_CountOfCounter.f k a0 a1) (spec_CountOfCounter.f (k + 1) a0 a1) := by
 intro a0 a1 k
 unfold spec_CountOfCounter.f
 repeat' first
  | (with_reducible exact spec_diWithout.mono _ _ _)
  | (with_reducible exact LeO.refl _)
  | (with_reducible exact LeO.none _)
  | (with_reducible refine LeO.ite ?_ ?_)
  | (with_reducible refine LeO.bind ?_ (fun _ => ?_))
  | exact spec_diWithout.mono _ _ _
  | exact LeO.none _
  | refine LeO.ite ?_ ?_
  | refine LeO.bind ?_ (fun _ => ?_)
set_option maxHeartbeats 8000000 in
set_option maxRecDepth 100000 in
theorem spec_CountOfCounter.calls (k : Nat) (a0 : Int) (a1 : Int) (r1 : Int) (r2 : Bool) (w : World) (h : spec_CountOfCounter.f k a0 a1 = some (r1, r2)) :
 Calls Tryz.prog 26 #[.int .i64 a0, .int .i64 a1] w fun e w' => e = .returned (.tuple #[.int .i64 r1, .bool r2]) ∧ Below w.heap.size w w' := by
 have HB := Aside0.mk (Below.refl w.heap.size w)
 have H : ((spec_l1In.f a0 1 1000000000000).bind fun t300 => (if t300 = true then ((spec_diDigit.f a1).bind fun t301 => (if t301 = true then ((spec_diWithout.f k a0 a1).bind fun t302 => ((spec_diWithout.f k (wrap64 (a0 - 1)) a1).bind fun t303 => (if t302 = t303 then (some (0, false)) else ((spec_diWithout.f k a0 a1).bind fun t304 => (some (t304, true)))))) else (some (0, false)))) else (some (0, false)))) = some (r1, r2) := h
 clear h
 replace H := Option.bind_eq_some_iff.mp H
 obtain ⟨t300, A30, H⟩ := H
 have A3 := Aside0.mk A30
 clear A30
 by_cases c4 : t300 = true
 · subst c4
   have H1 : ((spec_diDigit.f a1).bind fun t301 => (if t301 = true then ((spec_diWithout.f k a0 a1).bind fun t302 => ((spec_diWithout.f k (wrap64 (a0 - 1)) a1).bind fun t303 => (if t302 = t303 then (some (0, false)) else ((spec_diWithout.f k a0 a1).bind fun t304 => (some (t304, true)))))) else (some (0, false)))) = some (r1, r2) := by rw [if_pos rfl] at H; exact H
   clear H
   have H := H1
   clear H1
   replace H := Option.bind_eq_some_iff.mp H
   obtain ⟨t301, A50, H⟩ := H
   have A5 := Aside0.mk A50
   clear A50
   by_cases c6 : t301 = true
   · subst c6
     have H1 : ((spec_diWithout.f k a0 a1).bind fun t302 => ((spec_diWithout.f k (wrap64 (a0 - 1)) a1).bind fun t303 => (if t302 = t303 then (some (0, false)) else ((spec_diWithout.f k a0 a1).bind fun t304 => (some (t304, true)))))) = some (r1, r2) := by rw [if_pos rfl] at H; exact H
     clear H
     have H := H1
     clear H1
     replace H := Option.bind_eq_some_iff.mp H
     obtain ⟨t302, A70, H⟩ := H
     have A7 := Aside0.mk A70
     clear A70
     replace H := Option.bind_eq_some_iff.mp H
     obtain ⟨t303, A80, H⟩ := H
     have A8 := Aside0.mk A80
     clear A80
     by_cases c9 : t302 = t303
     · rw [if_pos c9] at H
       have c9b0 : (t302 == t303) = true := beq_iff_eq.mpr c9
       have c9b1 : (t302 != t303) = false := bne_eq_false_iff_eq.mpr c9
       clear c9
       simp only [Option.some.injEq, Prod.mk.injEq] at H
       obtain ⟨rfl, rfl⟩ := H
       go_enter Tryz.func26, Tryz.ntmps26
       go_wp2_with (first | ((with_reducible refine gate_callee (f := 34) rfl ?_); refine goesL_ (some 7) rfl rfl Tryz.func34 (by kernel_rfl) rfl #[.int .i64 a0, .int .i64 1, .int .i64 1000000000000] rfl z7_1_ ?_; (with_reducible refine (spec_l1In.calls a0 1 1000000000000 true _ A3.out).mono ?_); rintro e w' ⟨rfl, ⟨nd, rfl⟩⟩; refine ⟨_, rfl, ?_⟩) | (go_at_call 49; (with_reducible refine (spec_diDigit.calls a1 true _ A5.out).mono ?_); rintro e w' ⟨rfl, ⟨nd, rfl⟩⟩) | (go_at_call 50; (with_reducible refine (spec_diWithout.calls k a0 a1 t302 _ A7.out).mono ?_); rintro e w10 ⟨rfl, hb⟩; have n0_ := Aside0.mk (below_step z7_0_ hb); clear HB; have HB := n0_; clear n0_; (try clear hb); (try clear hb2); (try clear hk); (try clear hi)) | (go_at_call 50; (with_reducible refine (spec_diWithout.calls k (wrap64 (a0 - 1)) a1 t303 _ A8.out).mono ?_); rintro e w11 ⟨rfl, hb⟩; have n0_ := Aside0.mk (below_step z7_0_ hb); clear HB; have HB := n0_; clear n0_; (try clear hb); (try clear hb2); (try clear hk); (try clear hi)))
       go_ret2
       exact ⟨by first | rfl | (simp [errW_none, errW_some] <;> rfl) | (simp [*, errW_none, errW_some] <;> rfl), by repeat (first | (with_reducible first | exact HB.out | apply below_alloc | apply pw_below_drewN | apply below_drew1) | exact HB.out)⟩
     rw [if_neg c9] at H
     have c9b0 : (t302 == t303) = false := beq_eq_false_iff_ne.mpr c9
     have c9b1 : (t302 != t303) = true := bne_iff_ne.mpr c9
     replace H := Option.bind_eq_some_iff.mp H
     obtain ⟨t304, A120, H⟩ := H
     have A12 := Aside0.mk A120
     clear A120
     simp only [Option.some.injEq, Prod.mk.injEq] at H
     obtain ⟨rfl, rfl⟩ := H
     go_enter Tryz.func26, Tryz.ntmps26
     go_wp2_with (first | ((with_reducible refine gate_callee (f := 34) rfl ?_); refine goesL_ (some 7) rfl rfl Tryz.func34 (by kernel_rfl) rfl #[.int .i64 a0, .int .i64 1, .int .i64 1000000000000] rfl z7_1_ ?_; (with_reducible refine (spec_l1In.calls a0 1 1000000000000 true _ A3.out).mono ?_); rintro e w' ⟨rfl, ⟨nd, rfl⟩⟩; refine ⟨_, rfl, ?_⟩) | (go_at_call 49; (with_reducible refine (spec_diDigit.calls a1 true _ A5.out).mono ?_); rintro e w' ⟨rfl, ⟨nd, rfl⟩⟩) | (go_at_call 50; (with_reducible refine (spec_diWithout.calls k a0 a1 t302 _ A7.out).mono ?_); rintro e w13 ⟨rfl, hb⟩; have n0_ := Aside0.mk (below_step z7_0_ hb); clear HB; have HB := n0_; clear n0_; (try clear hb); (try clear hb2); (try clear hk); (try clear hi)) | (go_at_call 50; (with_reducible refine (spec_diWithout.calls k (wrap64 (a0 - 1)) a1 t303 _ A8.out).mono ?_); rintro e w14 ⟨rfl, hb⟩; have n0_ := Aside0.mk (below_step z7_0_ hb); clear HB; have HB := n0_; clear n0_; (try clear hb); (try clear hb2); (try clear hk); (try clear hi)) | ((with_reducible refine gate_callee (f := 50) rfl ?_); refine goesL_ (some 26) rfl rfl Tryz.func50 (by kernel_rfl) rfl #[.int .i64 a0, .int .i64 a1] rfl z7_1_ ?_; (with_reducible refine (spec_diWithout.calls k a0 a1 t304 _ A12.out).mono ?_); rintro e w15 ⟨rfl, hb⟩; refine ⟨_, rfl, ?_⟩; have n0_ := Aside0.mk (below_step z7_0_ hb); clear HB; have HB := n0_; clear n0_; (try clear hb); (try clear hb2); (try clear hk); (try clear hi)))
     go_ret2
     exact ⟨by first | rfl | (simp [errW_none, errW_some] <;> rfl) | (simp [*, errW_none, errW_some] <;> rfl), by repeat (first | (with_reducible first | exact HB.out | apply below_alloc | apply pw_below_drewN | apply below_drew1) | exact HB.out)⟩
   replace c6 := Bool.eq_false_iff.mpr c6
   subst c6
   have H1 : (some (0, false)) = some (r1, r2) := by rw [if_neg (show ¬ (false = true) by decide)] at H; exact H
   clear H
   have H := H1
   clear H1
   simp only [Option.some.injEq, Prod.mk.injEq] at H
   obtain ⟨rfl, rfl⟩ := H
   go_enter Tryz.func26, Tryz.ntmps26
   go_wp2_with (first | ((with_reducible refine gate_callee (f := 34) rfl ?_); refine goesL_ (some 7) rfl rfl Tryz.func34 (by kernel_rfl) rfl #[.int .i64 a0, .int .i64 1, .int .i64 1000000000000] rfl z7_1_ ?_; (with_reducible refine (spec_l1In.calls a0 1 1000000000000 true _ A3.out).mono ?_); rintro e w' ⟨rfl, ⟨nd, rfl⟩⟩; refine ⟨_, rfl, ?_⟩) | (go_at_call 49; (with_reducible refine (spec_diDigit.calls a1 false _ A5.out).mono ?_); rintro e w' ⟨rfl, ⟨nd, rfl⟩⟩))
   go_ret2
   exact ⟨by first | rfl | (simp [errW_none, errW_some] <;> rfl) | (simp [*, errW_none, errW_some] <;> rfl), by repeat (first | (with_reducible first | exact HB.out | apply below_alloc | apply pw_below_drewN | apply below_drew1) | exact HB.out)⟩
 replace c4 := Bool.eq_false_iff.mpr c4
 subst c4
 have H1 : (some (0, false)) = some (r1, r2) := by rw [if_neg (show ¬ (false = true) by decide)] at H; exact H
 clear H
 have H := H1
 clear H1
 simp only [Option.some.injEq, Prod.mk.injEq] at H
 obtain ⟨rfl, rfl⟩ := H
 go_enter Tryz.func26, Tryz.ntmps26
 go_wp2_with (first | ((with_reducible refine gate_callee (f := 34) rfl ?_); refine goesL_ (some 7) rfl rfl Tryz.func34 (by kernel_rfl) rfl #[.int .i64 a0, .int .i64 1, .int .i64 1000000000000] rfl z7_1_ ?_; (with_reducible refine (spec_l1In.calls a0 1 1000000000000 false _ A3.out).mono ?_); rintro e w' ⟨rfl, ⟨nd, rfl⟩⟩; refine ⟨_, rfl, ?_⟩))
 go_ret2
 exact ⟨by first | rfl | (simp [errW_none, errW_some] <;> rfl) | (simp [*, errW_none, errW_some] <;> rfl), by repeat (first | (with_reducible first | exact HB.out | apply below_alloc | apply pw_below_drewN | apply below_drew1) | exact HB.out)⟩

/-! ### spec_DrawCounterShows: function 27 -/
def spec_DrawCounterShows.f (l0 : List Int) : Option (Int × Int) := (spec_l1Cur_among.f l0 0 0 (([1, 2, 8, 9, 10, 13, 80, 81, 100, 1000, 1000000, 1000001, 0] : List Int))).bind fun bt309 => ((spec_l1Cur_digit.f l0 bt309.2.1 bt309.2.2).bind fun bt312 => (some (bt309.1, bt312.1)))
set_option maxHeartbeats 8000000 in
set_option maxRecDepth 100000 in
theorem spec_DrawCounterShows.calls (A0 : Option Addr) (c0 : Nat) (l0 : List Int) (r1 : Int) (r2 : Int) (w : World) (hr0 : Kd.C (Kd.int .u8) w A0 l0.length l0) (hc0 : l0.length ≤ c0) (h : spec_DrawCounterShows.f l0 = some (r1, r2)) :
 Calls Tryz.prog 27 #[.slice A0 l0.length c0] w fun e w' => e = .returned (.tuple #[.int .i64 r1, .int .i64 r2]) ∧ Below w.heap.size w w' := by
 have hu40 := Tryz.underlying40
 have HR0 := Aside0.mk hr0
 have HC0 := Aside0.mk hc0
 clear hr0 hc0
 have HB := Aside0.mk (Below.refl w.heap.size w)
 have H : ((spec_l1Cur_among.f l0 0 0 (([1, 2, 8, 9, 10, 13, 80, 81, 100, 1000, 1000000, 1000001, 0] : List Int))).bind fun bt309 => ((spec_l1Cur_digit.f l0 bt309.2.1 bt309.2.2).bind fun bt312 => (some (bt309.1, bt312.1)))) = some (r1, r2) := h
 clear h
 obtain ⟨y306, hy306⟩ : ∃ y_ : List Int, y_ = (([1, 2, 8, 9, 10, 13, 80, 81, 100, 1000, 1000000, 1000001, 0] : List Int)) := ⟨_, rfl⟩
 replace H : ((spec_l1Cur_among.f l0 0 0 y306).bind fun bt309 => ((spec_l1Cur_digit.f l0 bt309.2.1 bt309.2.2).bind fun bt312 => (some (bt309.1, bt312.1)))) = some (r1, r2) := by first | (rw [hy306]; with_reducible exact H) | (have H2_ := (Option.bind_some _ _).symm.trans H; rw [hy306]; with_reducible exact H2_) | (have H2_ := (Option.bind_some _ _).symm.trans H; with_reducible exact H2_) | with_reducible exact H | (rw [hy306]; exact H) | exact H
 have Ny306 := Aside0.mk hy306
 clear hy306
 replace H := Option.bind_eq_some_iff.mp H
 obtain ⟨⟨t309, t310, t311⟩, A20, H⟩ := H
 dsimp only at H
 have A2 := Aside0.mk A20
 clear A20
 replace H := Option.bind_eq_some_iff.mp H
 obtain ⟨⟨t312, t313, t314⟩, A30, H⟩ := H
 dsimp only at H
 have A3 := Aside0.mk A30
 clear A30
 simp only [Option.some.injEq, Prod.mk.injEq] at H
 obtain ⟨rfl, rfl⟩ := H
 go_enter Tryz.func27, Tryz.ntmps27
 go_wp2_with (first | ((with_reducible refine gate_dst (N := 8) rfl ?_); refine box_event ?hg (N := 8) ?hd (cs := #[.slice A0 l0.length c0, .int .i64 0, .int .u64 0]) (t := 40) ?hr ?_; (case hd => rfl); (case hg => rfl); (case hr => first | (go_simp; done) | (go_simp; rfl)); intro gb305 hg w4 hbox hb; have n0_ := Aside0.mk (below_step z7_0_ hb); have n1_ := Aside0.mk ((⟨_, _, hbox, (by rw [hg]; exact (below_size z7_0_) : w.heap.size ≤ gb305), HR0.out⟩ : IsS40 w w4 gb305 l0 0 0)); clear HB; have HB := n0_; have HI305 := n1_; clear n0_ n1_; clear hb hbox hg) | ((with_reducible refine gate_dst (N := 10) rfl ?_); refine Kd.R_lit (Kd.int .i64) _ 3 ?hg (N := 10) ?hd (xs := ([1, 2, 8, 9, 10, 13, 80, 81, 100, 1000, 1000000, 1000001, 0] : List Int)) (inner := [.int .i64 1, .int .i64 2, .int .i64 8, .int .i64 9, .int .i64 10, .int .i64 13, .int .i64 80, .int .i64 81, .int .i64 100, .int .i64 1000, .int .i64 1000000, .int .i64 1000001, .int .i64 0]) (ok := fun _ => True) (okp := fun _ => True) ?hr ?hp (fun _ hk => hk) trivial (Below.refl _ _) (Nat.le_refl _) (by simp) ?_; (case hd => rfl); (case hg => rfl); (case hr => first | (go_simp; done) | (go_simp; rfl)); (case hp => exact (Reps.one (show Kd.M (Kd.int .i64) _ _ _ 1 [.int .i64 1] from rfl) (Reps.one (show Kd.M (Kd.int .i64) _ _ _ 2 [.int .i64 2] from rfl) (Reps.one (show Kd.M (Kd.int .i64) _ _ _ 8 [.int .i64 8] from rfl) (Reps.one (show Kd.M (Kd.int .i64) _ _ _ 9 [.int .i64 9] from rfl) (Reps.one (show Kd.M (Kd.int .i64) _ _ _ 10 [.int .i64 10] from rfl) (Reps.one (show Kd.M (Kd.int .i64) _ _ _ 13 [.int .i64 13] from rfl) (Reps.one (show Kd.M (Kd.int .i64) _ _ _ 80 [.int .i64 80] from rfl) (Reps.one (show Kd.M (Kd.int .i64) _ _ _ 81 [.int .i64 81] from rfl) (Reps.one (show Kd.M (Kd.int .i64) _ _ _ 100 [.int .i64 100] from rfl) (Reps.one (show Kd.M (Kd.int .i64) _ _ _ 1000 [.int .i64 1000] from rfl) (Reps.one (show Kd.M (Kd.int .i64) _ _ _ 1000000 [.int .i64 1000000] from rfl) (Reps.one (show Kd.M (Kd.int .i64) _ _ _ 1000001 [.int .i64 1000001] from rfl) (Reps.one (show Kd.M (Kd.int .i64) _ _ _ 0 [.int .i64 0] from rfl) (Reps.none _ _))))))))))))))); intro v307 w5 ho6 hb hg_ hnew_; clear hg_ hnew_; (first | rw [← Ny306.out] at ho6 | (simp only [Int.reduceToNat] at ho6; rw [← Ny306.out] at ho6)); have n0_ := Aside0.mk (Kd.R_lower ho6 (below_size (by repeat (first | (with_reducible first | exact HB.out | apply below_alloc | apply pw_below_drewN | apply below_drew1 | refine below_set ?_ (IsS40.ge HI305.out)) | exact HB.out)))); have n1_ := Aside0.mk (IsS40.below (by repeat (first | (with_reducible first | exact HI305.out | apply IsS40.alloc | apply IsS40.drewN | apply IsS40.drew | apply IsS40.set_1 | apply IsS40.set_2) | exact HI305.out)) hb); have n2_ := Aside0.mk (below_step (by repeat (first | (with_reducible first | exact HB.out | apply below_alloc | apply pw_below_drewN | apply below_drew1 | refine below_set ?_ (IsS40.ge HI305.out)) | exact HB.out)) hb); clear HI305; clear HB; have HO308 := n0_; have HI305 := n1_; have HB := n2_; clear n0_ n1_ n2_; clear hb ho6; obtain ⟨Ao7, co7, eo7⟩ := Kd.R_slice HO308.out; subst eo7) | ((with_reducible refine gate_callee (f := 45) rfl ?_); refine goesL_ (some 11) rfl rfl Tryz.func45 (by kernel_rfl) rfl #[.pointer (some ⟨gb305, 0, none⟩), .slice Ao7 y306.length co7] rfl z7_1_ ?_; (with_reducible refine (spec_l1Cur_among.calls gb305 l0 0 0 _ _ y306 t309 t310 t311 w _ ?side1 ?side2 ?side3 ?side4 ?side5 A2.out).mono ?_); (case side1 => repeat (first | (with_reducible first | exact HI305.out | apply IsS40.alloc | apply IsS40.drewN | apply IsS40.drew | apply IsS40.set_1 | apply IsS40.set_2) | exact HI305.out)); (case side2 => repeat (first | (with_reducible first | exact HB.out | apply below_alloc | apply pw_below_drewN | apply below_drew1 | refine below_set ?_ (IsS40.ge HI305.out)) | exact HB.out)); (case side3 => repeat (first | exact (Kd.R_reads' HO308.out).2.2 | (with_reducible refine Kd.C_alloc ?_ _) | (with_reducible refine Kd.C_drewN ?_ _) | (with_reducible refine Kd.C_drew ?_))); (case side4 => exact (Kd.R_reads' HO308.out).2.1); (case side5 => exact far_slice (IsS40.own_ne HI305.out HO308.out (by decide))); rintro e w8 ⟨rfl, hi, hb, hk⟩; refine ⟨_, rfl, ?_⟩; have n0_ := Aside0.mk (Kd.R_mono (Kd.R_keep (IsS40.apart (show IsS40 w _ gb305 l0 0 0 from by repeat (first | (with_reducible first | exact HI305.out | apply IsS40.alloc | apply IsS40.drewN | apply IsS40.drew | apply IsS40.set_1 | apply IsS40.set_2) | exact HI305.out)) (by (with_reducible repeat (first | apply Kd.R_alloc | apply Kd.R_drewN | apply Kd.R_drew)); exact HO308.out) (by decide)) hk (fun _ h => h.2)) (fun _ h => h.1)); have n1_ := Aside0.mk (hb); have n2_ := Aside0.mk (hi); clear HO308; clear HB; clear HI305; have HO308 := n0_; have HB := n1_; have HI305 := n2_; clear n0_ n1_ n2_; (try clear hb); (try clear hb2); (try clear hk); (try clear hi)) | ((with_reducible refine gate_callee (f := 53) rfl ?_); refine goesL_ (some 14) rfl rfl Tryz.func53 (by kernel_rfl) rfl #[.pointer (some ⟨gb305, 0, none⟩)] rfl z7_1_ ?_; (with_reducible refine (spec_l1Cur_digit.calls gb305 l0 t310 t311 t312 t313 t314 w _ ?side1 ?side2 A3.out).mono ?_); (case side1 => repeat (first | (with_reducible first | exact HI305.out | apply IsS40.alloc | apply IsS40.drewN | apply IsS40.drew | apply IsS40.set_1 | apply IsS40.set_2) | exact HI305.out)); (case side2 => repeat (first | (with_reducible first | exact HB.out | apply below_alloc | apply pw_below_drewN | apply below_drew1 | refine below_set ?_ (IsS40.ge HI305.out)) | exact HB.out)); rintro e w9 ⟨rfl, hi, hb, hk⟩; refine ⟨_, rfl, ?_⟩; have n0_ := Aside0.mk (Kd.R_mono (Kd.R_keep (IsS40.apart (show IsS40 w _ gb305 l0 t310 t311 from by repeat (first | (with_reducible first | exact HI305.out | apply IsS40.alloc | apply IsS40.drewN | apply IsS40.drew | apply IsS40.set_1 | apply IsS40.set_2) | exact HI305.out)) (by (with_reducible repeat (first | apply Kd.R_alloc | apply Kd.R_drewN | apply Kd.R_drew)); exact HO308.out) (by decide)) hk (fun _ h => h.2)) (fun _ h => h.1)); have n1_ := Aside0.mk (hb); have n2_ := Aside0.mk (hi); clear HO308; clear HB; clear HI305; have HO308 := n0_; have HB := n1_; have HI305 := n2_; clear n0_ n1_ n2_; (try clear hb); (try clear hb2); (try clear hk); (try clear hi)))
 go_ret2
 exact ⟨by first | rfl | (simp [errW_none, errW_some] <;> rfl) | (simp [*, errW_none, errW_some] <;> rfl), by repeat (first | (with_reducible first | exact HB.out | apply below_alloc | apply pw_below_drewN | apply below_drew1 | refine below_set ?_ (IsS40.ge HI305.out)) | exact HB.out)⟩

/-! ### impl_least: function 54 -/
def impl_least.go (p : Int → Option Bool) : Nat → Int → Int → Option Int
 | 0, _, _ => none
 | c + 1, lo, hi => if lo < hi then (p (wrap64 (Int.tdiv (wrap64 (lo + hi)) 2))).bind fun b => (if b = true then impl_least.go p c lo (wrap64 (Int.tdiv (wrap64 (lo + hi)) 2)) else impl_least.go p c (wrap64 (wrap64 (Int.tdiv (wrap64 (lo + hi)) 2) + 1)) hi) else some lo
theorem impl_least.go_mono {p p' : Int → Option Bool} (hp : ∀ x, LeO (p x) (p' x)) : ∀ c lo hi, LeO (impl_least.go p c lo hi) (impl_least.go p' (c + 1) lo hi)
 | 0, _, _ => fun r h => by simp [impl_least.go] at h
 | c + 1, lo, hi => by
  unfold impl_least.go
  exact LeO.ite (LeO.bind (hp _) (fun b => LeO.ite (impl_least.go_mono hp c _ _) (impl_least.go_mono hp c _ _))) (LeO.refl _)
set_option maxHeartbeats 8000000 in
set_option maxRecDepth 100000 in
theorem impl_least.calls (p : Int → Option Bool) (k : Nat) (g : FuncId) (fn : Func) (lb : Array Value) (lo hi r : Int) (w : World)
 (hf : Tryz.prog.funcs[g]? = some fn) (hname : (fn.name == "runtime.NumGoroutine") = false) (hb : fn.body.isSome = true)
 (hp : ∀ x t W, p x = some t → Below w.heap.size w W → Calls Tryz.prog g (#[.int .i64 x] ++ lb) W fun e W' => e = .returned (.bool t) ∧ Below W.heap.size W W')
 (h : impl_least.go p k lo (wrap64 (hi + 1)) = some r) :
 Calls Tryz.prog 54 #[.int .i64 lo, .int .i64 hi, .func (.func g) #[] lb] w fun e w' => e = .returned (.int .i64 r) ∧ Below w.heap.size w w' := by
 have HP := Aside0.mk hp
 have HF := Aside0.mk hf
 have HN := Aside0.mk hname
 have HBD := Aside0.mk hb
 have H' := Aside0.mk h
 have HB := Aside0.mk (Below.refl w.heap.size w)
 clear hp hf hname hb h
 go_enter Tryz.func54, Tryz.ntmps54
 go_wp2
 go_loopg [0, 1] k (fun kq v0 v1 w' => ∃ lo hi : Int, v0 = .int .i64 lo ∧ v1 = .int .i64 hi ∧ Aside0 (impl_least.go p kq lo hi = some r) ∧ Aside0 (Below w.heap.size w w'))
 case atStart => exact ⟨lo, wrap64 (hi + 1), rfl, rfl, H', HB⟩
 case round =>
  clear H' HB
  obtain ⟨lo, hi, rfl, rfl, HA, HB⟩ := hrel
  have h := HA.out
  clear HA
  cases gk with
  | zero => simp [impl_least.go] at h
  | succ c =>
   unfold impl_least.go at h
   by_cases cc : lo < hi
   · rw [if_pos cc] at h
     have c1 : decide (lo < hi) = true := decide_eq_true cc
     clear cc
     obtain ⟨m, hm⟩ : ∃ m, m = wrap64 (Int.tdiv (wrap64 (lo + hi)) 2) := ⟨_, rfl⟩
     rw [← hm] at h
     obtain ⟨b, hb, h⟩ := Option.bind_eq_some_iff.mp h
     have HT := Aside0.mk hb
     have HM := Aside0.mk hm.symm
     clear hb hm
     cases b with
     | true =>
      rw [if_pos rfl] at h
      have HA2 := Aside0.mk h
      clear h
      go_wp2_with (first | ((with_reducible refine gate_dst (N := 19) rfl ?_); (try simp only [HM.out]); refine Fn.goesF_ (some 19) rfl rfl HF.out HN.out HBD.out #[.int .i64 m] rfl (by rfl) (by (try simp only [List.map_toArray, List.map_cons, List.map_nil]); rfl) ?_; (with_reducible refine (HP.out m true _ HT.out HB.out).mono ?_); rintro e w11 ⟨rfl, hb⟩; refine ⟨_, rfl, ?_⟩; have HB2 := Aside0.mk (below_step HB.out hb); clear hb))
      (try simp only [HM.out])
      go_roundg c
      case measure => omega
      case rel => exact ⟨lo, m, rfl, rfl, HA2, HB2⟩
     | false =>
      rw [if_neg (by decide)] at h
      have HA2 := Aside0.mk h
      clear h
      go_wp2_with (first | ((with_reducible refine gate_dst (N := 19) rfl ?_); (try simp only [HM.out]); refine Fn.goesF_ (some 19) rfl rfl HF.out HN.out HBD.out #[.int .i64 m] rfl (by rfl) (by (try simp only [List.map_toArray, List.map_cons, List.map_nil]); rfl) ?_; (with_reducible refine (HP.out m false _ HT.out HB.out).mono ?_); rintro e w11 ⟨rfl, hb⟩; refine ⟨_, rfl, ?_⟩; have HB2 := Aside0.mk (below_step HB.out hb); clear hb))
      (try simp only [HM.out])
      go_roundg c
      case measure => omega
      case rel => exact ⟨wrap64 (m + 1), hi, rfl, rfl, HA2, HB2⟩
   rw [if_neg cc] at h
   have c1 : decide (lo < hi) = false := decide_eq_false cc
   have hr : lo = r := Option.some.inj h
   subst hr
   clear cc h
   go_wp2
   go_ret
   exact ⟨rfl, HB.out⟩

end Go.Proofs.YtjpbadckmackbaaGreatDoor.PFnDigitsSummed

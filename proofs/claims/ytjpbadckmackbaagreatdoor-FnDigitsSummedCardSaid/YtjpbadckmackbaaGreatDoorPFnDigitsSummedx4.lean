-- Laid by this session's program gprint.py over the kit's print.
import Derived.Test.YtjpbadckmackbaaGreatDoorPFnDigitsSummedx0
import Derived.Test.YtjpbadckmackbaaGreatDoorPFnDigitsSummedx1
import Derived.Test.YtjpbadckmackbaaGreatDoorPFnDigitsSummedx2
import Derived.Test.YtjpbadckmackbaaGreatDoorPFnDigitsSummedx3
namespace Go.Proofs.YtjpbadckmackbaaGreatDoor.PFnDigitsSummed
open Go.RowKit Go.Proofs.YtjpbadckmackbaaGreatDoorW.PrintWords Go.Proofs.YtjpbadckmackbaaGreatDoorW.PrintLast Go.Proofs.YtjpbadckmackbaaGreatDoorW.PrintMore
attribute [local go_sem] max2_int min2_int max_two min_two max_three min_three max_four min_four   -- for this text's walks alone
set_option linter.unusedVariables false
set_option linter.unusedSimpArgs false
theorem z4_0_ {p : Prop} (h : p := by (try simp only [List.map_toArray, List.map_cons, List.map_nil]); first | done | rfl | (simp only [List.length_drop, List.length_take]; rfl)) : p := h
theorem z4_1_ {p : Prop} (h : p := by repeat (first | (with_reducible first | exact HB.out | apply below_alloc | apply pw_below_drewN | apply below_drew1) | exact HB.out)) : p := h
theorem z4_2_ {p : Prop} (h : p := by first | rfl | (simp; done) | (simp [*]; done)) : p := h

/-! ### spec_diOfSum: function 37 -/
-- behind 61 63 60 62 36
theorem spec_diOfSum.iter_below {w w' : World} {g : Nat} {s : ByteArray} {p : Nat} (hk : w.heap[g]? = some (.stringIter s p)) (h : Below w.heap.size w w') : w'.heap[g]? = some (.stringIter s p) := by
 have hlt : g < w.heap.size := (Array.getElem?_eq_some_iff.1 hk).1
 rw [h.block g hlt]; exact hk
theorem spec_diOfSum.byte (s : ByteArray) (i : Nat) (h : i < s.size) : bt s (i : Int) = ((s[i]'h).toNat : Int) := by
 unfold bt
 rw [dif_pos (by rw [Int.toNat_natCast]; exact h)]
 simp only [Int.toNat_natCast]
theorem spec_diOfSum.wrapn (n : Nat) (h : n < 4611686018427387904) : wrap64 ((n : Int) + 1) = ((n + 1 : Nat) : Int) := by simp [wrap64]; omega
mutual
def spec_diOfSum.l0 : Nat → Int → Int → Int → ByteArray → ByteArray → Int → Option (Int)
 | 0, _, _, _, _, _, _ => none
 | k + 1, x0, x1, x5, x6, x11, x12 => if x12 < (x11.size : Int) then (if bt x11 x12 < 128 ∧ x12 < 4611686018427387904 then (spec_diOfSum.l1 k x0 x1 x5 x6 x12 0 x11 x12) else none) else ((spec_diSum.f k x0).bind fun t216 => (if t216 = x1 then (if x1 = 0 then (some (wrap64 ((wrap64 (x5 + 1)) - 1))) else (some (wrap64 (x5 + 1)))) else (if x1 = 0 then (some (wrap64 (x5 - 1))) else (some x5))))
def spec_diOfSum.l1 : Nat → Int → Int → Int → ByteArray → Int → Int → ByteArray → Int → Option (Int)
 | 0, _, _, _, _, _, _, _, _ => none
 | k + 1, x0, x1, x5, x6, x7, x8, x11, x12 => if 0 ≤ x7 then (if x7 < (x6.size : Int) then (if x8 < (((bt x6 x7) - 48) % 256) then ((spec_tkWays.f k (wrap64 ((wrap64 ((x6.size : Int) - 1)) - x7))).bind fun t211 => (if x7 ≤ (x6.size : Int) then ((spec_tkSum.f k (x6.extract 0 (x7 : Int).toNat)).bind fun t214 => ((spec_tkOf.f t211 (wrap64 ((wrap64 (x1 - t214)) - x8))).bind fun t215 => (spec_diOfSum.l1 k x0 x1 (wrap64 (x5 + t215)) x6 x7 (wrap64 (x8 + 1)) x11 x12))) else (none))) else (spec_diOfSum.l0 k x0 x1 x5 x6 x11 (wrap64 (x12 + 1)))) else (none)) else (none)
end
def spec_diOfSum.f (k : Nat) (a0 : Int) (a1 : Int) : Option (Int) := (spec_l1Num.f k a0).bind fun t210 => (spec_diOfSum.l0 k a0 a1 0 t210 t210 0)
theorem spec_diOfSum.mono_l : ∀ k, (∀ y0 y1 y2 y3 y4 y5, LeO (spec_diOfSum.l0 k y0 y1 y2 y3 y4 y5) (spec_diOfSum.l0 (k + 1) y0 y1 y2 y3 y4 y5)) ∧ (∀ y0 y1 y2 y3 y4 y5 y6 y7, LeO (spec_diOfSum.l1 k y0 y1 y2 y3 y4 y5 y6 y7) (spec_diOfSum.l1 (k + 1) y0 y1 y2 y3 y4 y5 y6 y7))
 | 0 => ⟨fun _ _ _ _ _ _ r h => by simp [spec_diOfSum.l0] at h, fun _ _ _ _ _ _ _ _ r h => by simp [spec_diOfSum.l1] at h⟩
 | k + 1 => by
  obtain ⟨ih0, ih1⟩ := spec_diOfSum.mono_l k
  refine ⟨?_, ?_⟩
  · intro y0 y1 y2 y3 y4 y5
    unfold spec_diOfSum.l0
    repeat' first
    | (with_reducible exact ih0 _ _ _ _ _ _)
    | (with_reducible exact ih1 _ _ _ _ _ _ _ _)
    | (with_reducible exact spec_diSum.mono _ _)
    | (with_reducible exact spec_l1Num.mono _ _)
    | (with_reducible exact spec_tkSum.mono _ _)
    | (with_reducible exact spec_tkWays.mono _ _)
    | (with_reducible exact LeO.refl _)
    | (with_reducible exact LeO.none _)
    | (with_reducible refine LeO.ite ?_ ?_)
    | (with_reducible refine LeO.bind ?_ (fun _ => ?_))
    | exact ih0 _ _ _ _ _ _
    | exact ih1 _ _ _ _ _ _ _ _
    | exact spec_diSum.mono _ _
    | exact spec_l1Num.mono _ _
    | exact spec_tkSum.mono _ _
    | exact spec_tkWays.mono _ _
    | exact LeO.none _
    | refine LeO.ite ?_ ?_
    | refine LeO.bind ?_ (fun _ => ?_)
  intro y0 y1 y2 y3 y4 y5 y6 y7
  unfold spec_diOfSum.l1
  repeat' first
  | (with_reducible exact ih0 _ _ _ _ _ _)
  | (with_reducible exact ih1 _ _ _ _ _ _ _ _)
  | (with_reducible exact spec_diSum.mono _ _)
  | (with_reducible exact spec_l1Num.mono _ _)
  | (with_reducible exact spec_tkSum.mono _ _)
  | (with_reducible exact spec_tkWays.mono _ _)
  | (with_reducible exact LeO.refl _)
  | (with_reducible exact LeO.none _)
  | (with_reducible refine LeO.ite ?_ ?_)
  | (with_reducible refine LeO.bind ?_ (fun _ => ?_))
  | exact ih0 _ _ _ _ _ _
  | exact ih1 _ _ _ _ _ _ _ _
  | exact spec_diSum.mono _ _
  | exact spec_l1Num.mono _ _
  | exact spec_tkSum.mono _ _
  | exact spec_tkWays.mono _ _
  | exact LeO.none _
  | refine LeO.ite ?_ ?_
  | refine LeO.bind ?_ (fun _ => ?_)
theorem spec_diOfSum.mono : ∀ a0 a1 k, LeO (spec_diOfSum.f k a0 a1) (spec_diOfSum.f (k + 1) a0 a1) := by
 intro a0 a1 k
 obtain ⟨ih0, ih1⟩ := spec_diOfSum.mono_l k
 unfold spec_diOfSum.f
 repeat' first
  | (with_reducible exact ih0 _ _ _ _ _ _)
  | (with_reducible exact ih1 _ _ _ _ _ _ _ _)
  | (with_reducible exact spec_diSum.mono _ _)
  | (with_reducible exact spec_l1Num.mono _ _)
  | (with_reducible exact spec_tkSum.mono _ _)
  | (with_reducible exact spec_tkWays.mono _ _)
  | (with_reducible exact LeO.refl _)
  | (with_reducible exact LeO.none _)
  | (with_reducible refine LeO.ite ?_ ?_)
  | (with_reducible refine LeO.bind ?_ (fun _ => ?_))
  | exact ih0 _ _ _ _ _ _
  | exact ih1 _ _ _ _ _ _ _ _
  | exact spec_diSum.mono _ _
  | exact spec_l1Num.mono _ _
  | exact spec_tkSum.mono _ _
  | exact spec_tkWays.mono _ _
  | exact LeO.none _
  | refine LeO.ite ?_ ?_
  | refine LeO.bind ?_ (fun _ => ?_)
def spec_diOfSum.T9 : Bool × List (List Nat × List Nat) := (true, [([], []), ([], []), ([1], [1]), ([2], [2]), ([], []), ([3, 4], [3, 4]), ([5], [5]), ([], []), ([], []), ([], []), ([8, 9], [8, 9]), ([10, 6], [10]), ([7, 11], [7, 11]), ([], []), ([12, 13], [12, 13]), ([6, 14, 11], [6, 14]), ([0, 15], [0, 15]), ([16, 15, 0, 1, 2, 3, 4, 5, 6, 7, 8, 9, 10, 11, 12, 13, 14, 15, 16], [0, 16])])
def spec_diOfSum.B9 : List Nat := [0, 0, 2, 6, 0, 30, 62, 0, 0, 0, 768, 1918, 4094, 0, 16382, 32766, 65535, 131071]
theorem spec_diOfSum.tab9 : rtab .any (opsOf Tryz.f37 9) = spec_diOfSum.T9 := by kernel_rfl
theorem spec_diOfSum.bits9 : waitsOk spec_diOfSum.T9.2 spec_diOfSum.B9 = true := by kernel_rfl
set_option maxHeartbeats 8000000 in
set_option maxRecDepth 100000 in
theorem spec_diOfSum.calls (k : Nat) (a0 : Int) (a1 : Int) (r : Int) (w : World) (h : spec_diOfSum.f k a0 a1 = some r) :
 Calls Tryz.prog 37 #[.int .i64 a0, .int .i64 a1] w fun e w' => e = .returned (.int .i64 r) ∧ Below w.heap.size w w' := by
 have HB := Aside0.mk (Below.refl w.heap.size w)
 have H : ((spec_l1Num.f k a0).bind fun t210 => (spec_diOfSum.l0 k a0 a1 0 t210 t210 0)) = some r := h
 clear h
 replace H := Option.bind_eq_some_iff.mp H
 obtain ⟨t210, A30, H⟩ := H
 have A3 := Aside0.mk A30
 clear A30
 have H' := Aside0.mk H
 clear H
 go_enter Tryz.func37, Tryz.ntmps37
 go_wp2_with (first | ((with_reducible refine gate_callee (f := 61) rfl ?_); refine goesL_ (some 10) rfl rfl Tryz.func61 (by kernel_rfl) rfl #[.int .i64 a0] rfl z4_0_ ?_; (with_reducible refine (spec_l1Num.calls k a0 t210 _ A3.out).mono ?_); rintro e w4 ⟨rfl, hb⟩; refine ⟨_, rfl, ?_⟩; have n0_ := Aside0.mk (below_step z4_1_ hb); clear HB; have HB := n0_; clear n0_; have HZ := Aside0.mk (below_size HB.out); (try clear hb); (try clear hb2); (try clear hk); (try clear hi)))
 go_loopg [5] k (fun kq v5 w' => ∃ (x5_1 : Int) (x12_1 : Int) (n12 : Nat), v5 = .int .i64 x5_1 ∧ Aside0 (x12_1 = (n12 : Int)) ∧ Aside0 (w'.heap[w4.heap.size]? = some (.stringIter t210 n12)) ∧ Aside0 (spec_diOfSum.l0 kq a0 a1 x5_1 t210 t210 x12_1 = some r) ∧ Aside0 (kq ≤ k) ∧ Aside0 (Below w.heap.size w w'))
 case atStart => exact ⟨(0), (0), 0, z4_2_, ⟨rfl⟩, ⟨World.iter_heap _ t210 0⟩, H', ⟨Nat.le_refl _⟩, ⟨below_alloc HB.out (.stringIter t210 0)⟩⟩
 case round =>
  clear H'
  (try clear p2);(try clear c3)
  obtain ⟨x5_1, x12_1, n12, rfl, HN, HI, HA, HK1, HB⟩ := hrel
  cases gk with
  | zero => exact absurd HA.out (by simp [spec_diOfSum.l0])
  | succ k1 =>
   have H := HA.out
   clear HA
   simp only [spec_diOfSum.l0] at H
   by_cases c5 : x12_1 < (t210.size : Int)
   · rw [if_pos c5] at H
     have hc : n12 < t210.size := by have := HN.out; omega
     have c5b0 : decide (x12_1 < (t210.size : Int)) = true := decide_eq_true c5
     clear c5
     by_cases ca : bt t210 x12_1 < 128 ∧ x12_1 < 4611686018427387904
     rotate_left
     · exact none_ (if_neg ca) H
     rw [if_pos ca] at H
     have hs : n12 < 4611686018427387904 := by have := HN.out; have := ca.2; omega
     have ha : (t210[n12]'hc).toNat < 128 := by have h_ := ca.1; rw [HN.out, spec_diOfSum.byte t210 n12 hc] at h_; omega
     have hnx := fun ty => Lib.run_next_ascii_at (P := Tryz.prog) wr w4.heap.size t210 n12 ty HI.out hc ha
     rw [← HN.out] at hnx
     have HB1 := Aside0.mk (Lib.below_iterAt HB.out HZ.out t210 (n12 + 1))
     have HI1 := Aside0.mk (Lib.iterAt_heap wr w4.heap.size t210 n12 (n12 + 1) HI.out)
     have HS := Aside0.mk hs
     clear HB HI ca ha hs
     generalize wr.iterAt w4.heap.size t210 (n12 + 1) = wr1 at hnx HB1 HI1
     have HB := HB1
     have HI := HI1
     clear HB1 HI1
     have H' := Aside0.mk H
     clear H
     go_wp2
     clear hnx
     go_loopg [5, 8] k1 (fun kq v5 v8 w' => ∃ (x5_2 : Int) (x8_2 : Int), v5 = .int .i64 x5_2 ∧ v8 = .int .i64 x8_2 ∧ Aside0 (w'.heap[w4.heap.size]? = some (.stringIter t210 (n12 + 1))) ∧ Aside0 (spec_diOfSum.l1 kq a0 a1 x5_2 t210 x12_1 x8_2 t210 x12_1 = some r) ∧ Aside0 (kq ≤ k1) ∧ Aside0 (Below w.heap.size w w'))
     case atStart => exact ⟨(x5_1), (0), z4_2_, z4_2_, ⟨by first | exact HI.out | exact spec_diOfSum.iter_below HI.out (pw_below_drewN (Below.refl _ _) _) | exact spec_diOfSum.iter_below (spec_diOfSum.iter_below HI.out (pw_below_drewN (Below.refl _ _) _)) (pw_below_drewN (Below.refl _ _) _)⟩, H', ⟨Nat.le_refl _⟩, ⟨by repeat (first | (with_reducible first | exact HB.out | apply below_alloc | apply pw_below_drewN | apply below_drew1) | exact HB.out)⟩⟩
     case round =>
      clear H'
      (try clear p2);(try clear c3);(try clear c5);(try clear c5b0);(try clear p2)
      obtain ⟨x5_2, x8_2, rfl, rfl, HI, HA, HK2, HB⟩ := hrel
      cases gk with
      | zero => exact absurd HA.out (by simp [spec_diOfSum.l1])
      | succ k2 =>
       have H := HA.out
       clear HA
       simp only [spec_diOfSum.l1] at H
       by_cases c6 : 0 ≤ x12_1
       rotate_left
       · exact none_ (if_neg c6) H
       rw [if_pos c6] at H
       have c6b0 : decide (0 ≤ x12_1) = true := decide_eq_true c6
       clear c6
       by_cases c7 : x12_1 < (t210.size : Int)
       rotate_left
       · exact none_ (if_neg c7) H
       rw [if_pos c7] at H
       have c7b0 : decide (x12_1 < (t210.size : Int)) = true := decide_eq_true c7
       clear c7
       by_cases c9 : x8_2 < (((bt t210 x12_1) - 48) % 256)
       · rw [if_pos c9] at H
         have c9b0 : decide (x8_2 < (((bt t210 x12_1) - 48) % 256)) = true := decide_eq_true c9
         clear c9
         replace H := Option.bind_eq_some_iff.mp H
         obtain ⟨t211, A100, H⟩ := H
         have A10 := Aside0.mk A100
         clear A100
         have c11b0 := eq_true (of_decide_eq_true (by first | (with_reducible assumption) | assumption) : 0 ≤ x12_1)
         by_cases c12 : x12_1 ≤ (t210.size : Int)
         rotate_left
         · exact none_ (if_neg c12) H
         rw [if_pos c12] at H
         have c12b0 := eq_true c12
         have c12b1 : decide (x12_1 ≤ (t210.size : Int)) = true := decide_eq_true c12
         clear c12
         replace H := Option.bind_eq_some_iff.mp H
         obtain ⟨t214, A130, H⟩ := H
         have A13 := Aside0.mk A130
         clear A130
         replace H := Option.bind_eq_some_iff.mp H
         obtain ⟨t215, A140, H⟩ := H
         have A14 := Aside0.mk A140
         clear A140
         have H' := Aside0.mk H
         clear H
         have p8 : 0 ≤ (x12_1 : Int) := of_decide_eq_true (by first | (with_reducible assumption) | assumption)
         have q8 : x12_1 < (t210.size : Int) := of_decide_eq_true (by first | (with_reducible assumption) | assumption)
         have hx8 := bt_at t210 x12_1
         replace p8 := eq_true p8
         replace q8 := eq_true q8
         try go_wp2
         have n0_ := Aside0.mk (below_drew1 HB.out)
         have HI2 := Aside0.mk (show wr.drew.heap[w4.heap.size]? = some (.stringIter t210 (n12 + 1)) from HI.out)
         clear HI
         have HI := HI2
         clear HI2
         clear HB
         have HB := n0_
         clear n0_
         refine start_ (n := 18) (S := fun w' => True) (ds := []) #[false, false, false, false, false, false, false, false, false, false, false, false, false, false, false, false, false, false] (by kernel_rfl) rfl rfl trivial (fun hHeld => ?_); refine with_tabW spec_diOfSum.tab9 spec_diOfSum.bits9 (fun HT_ HW_ => ?_)
         generalize wr.drew = w15 at HB HI hHeld ⊢
         refine pure_ (i := 0) (N := some 25) (v := ?_) (a' := ?_) #[true, false, false, false, false, false, false, false, false, false, false, false, false, false, false, false, false, false] rfl rfl (any_of HT_.out (by kernel_rfl)) (fun _ _ _ h => h) (Or.inl ⟨by rfl, ?_⟩) ?_ ?_
         rotate_left
         · intro w'
           go_simp
           with_reducible rfl
         rotate_left
         · simp only [Act.put, List.setIfInBounds_toArray, List.set_cons_zero, List.set_cons_succ, i64_w, i32_w]
           rfl
         refine pure_ (i := 1) (N := some 26) (v := ?_) (a' := ?_) #[true, true, false, false, false, false, false, false, false, false, false, false, false, false, false, false, false, false] rfl rfl (any_of HT_.out (by kernel_rfl)) (fun _ _ _ h => h) (Or.inl ⟨by rfl, ?_⟩) ?_ ?_
         rotate_left
         · intro w'
           go_simp
           with_reducible rfl
         rotate_left
         · simp only [Act.put, List.setIfInBounds_toArray, List.set_cons_zero, List.set_cons_succ, i64_w, i32_w]
           rfl
         refine pure_ (i := 2) (N := some 27) (v := ?_) (a' := ?_) #[true, true, true, false, false, false, false, false, false, false, false, false, false, false, false, false, false, false] rfl rfl (any_of HT_.out (by kernel_rfl)) (fun _ _ _ h => h) (Or.inl ⟨by rfl, ?_⟩) ?_ ?_
         rotate_left
         · intro w'
           go_simp
           with_reducible rfl
         rotate_left
         · simp only [Act.put, List.setIfInBounds_toArray, List.set_cons_zero, List.set_cons_succ, i64_w, i32_w]
           rfl
         refine pure_ (i := 3) (N := some 28) (v := ?_) (a' := ?_) #[true, true, true, true, false, false, false, false, false, false, false, false, false, false, false, false, false, false] rfl rfl (any_of HT_.out (by kernel_rfl)) (fun _ _ _ h => h) (Or.inl ⟨by rfl, ?_⟩) ?_ ?_
         rotate_left
         · intro w'
           go_simp
           with_reducible rfl
         rotate_left
         · simp only [Act.put, List.setIfInBounds_toArray, List.set_cons_zero, List.set_cons_succ, i64_w, i32_w]
           rfl
         refine pure_ (i := 4) (N := some 29) (v := ?_) (a' := ?_) #[true, true, true, true, true, false, false, false, false, false, false, false, false, false, false, false, false, false] rfl rfl (any_of HT_.out (by kernel_rfl)) (fun _ _ _ h => h) (Or.inl ⟨by rfl, ?_⟩) ?_ ?_
         rotate_left
         · intro w'
           go_simp
           with_reducible rfl
         rotate_left
         · simp only [Act.put, List.setIfInBounds_toArray, List.set_cons_zero, List.set_cons_succ, i64_w, i32_w]
           rfl
         refine pure_ (i := 5) (N := some 30) (v := ?_) (a' := ?_) #[true, true, true, true, true, true, false, false, false, false, false, false, false, false, false, false, false, false] rfl rfl (any_of HT_.out (by kernel_rfl)) (fun _ _ _ h => h) (Or.inl ⟨by rfl, ?_⟩) ?_ ?_
         rotate_left
         · intro w'
           go_simp
           with_reducible rfl
         rotate_left
         · simp only [Act.put, List.setIfInBounds_toArray, List.set_cons_zero, List.set_cons_succ, i64_w, i32_w]
           rfl
         refine pure_ (i := 7) (N := some 32) (v := ?_) (a' := ?_) #[true, true, true, true, true, true, false, true, false, false, false, false, false, false, false, false, false, false] rfl rfl (any_of HT_.out (by kernel_rfl)) (fun _ _ _ h => h) (Or.inl ⟨by rfl, ?_⟩) ?_ ?_
         rotate_left
         · intro w'
           go_simp
           with_reducible rfl
         rotate_left
         · simp only [Act.put, List.setIfInBounds_toArray, List.set_cons_zero, List.set_cons_succ, i64_w, i32_w]
           rfl
         refine pure_ (i := 8) (N := some 33) (v := ?_) (a' := ?_) #[true, true, true, true, true, true, false, true, true, false, false, false, false, false, false, false, false, false] rfl rfl (any_of HT_.out (by kernel_rfl)) (fun _ _ _ h => h) (Or.inl ⟨by rfl, ?_⟩) ?_ ?_
         rotate_left
         · intro w'
           go_simp
           with_reducible rfl
         rotate_left
         · simp only [Act.put, List.setIfInBounds_toArray, List.set_cons_zero, List.set_cons_succ, i64_w, i32_w]
           rfl
         refine pure_ (i := 9) (N := some 34) (v := ?_) (a' := ?_) #[true, true, true, true, true, true, false, true, true, true, false, false, false, false, false, false, false, false] rfl rfl (any_of HT_.out (by kernel_rfl)) (fun _ _ _ h => h) (Or.inl ⟨by rfl, ?_⟩) ?_ ?_
         rotate_left
         · intro w'
           go_simp
           with_reducible rfl
         rotate_left
         · simp only [Act.put, List.setIfInBounds_toArray, List.set_cons_zero, List.set_cons_succ, i64_w, i32_w]
           rfl
         refine pure_ (i := 10) (N := some 35) (v := ?_) (a' := ?_) #[true, true, true, true, true, true, false, true, true, true, true, false, false, false, false, false, false, false] rfl rfl (any_of HT_.out (by kernel_rfl)) (fun _ _ _ h => h) (Or.inl ⟨by rfl, ?_⟩) ?_ ?_
         rotate_left
         · intro w'
           go_simp
           with_reducible rfl
         rotate_left
         · simp only [Act.put, List.setIfInBounds_toArray, List.set_cons_zero, List.set_cons_succ, i64_w, i32_w]
           rfl
         refine pure_ (i := 13) (N := some 38) (v := ?_) (a' := ?_) #[true, true, true, true, true, true, false, true, true, true, true, false, false, true, false, false, false, false] rfl rfl (any_of HT_.out (by kernel_rfl)) (fun _ _ _ h => h) (Or.inl ⟨by rfl, ?_⟩) ?_ ?_
         rotate_left
         · intro w'
           go_simp
           with_reducible rfl
         rotate_left
         · simp only [Act.put, List.setIfInBounds_toArray, List.set_cons_zero, List.set_cons_succ, i64_w, i32_w]
           rfl
         refine one_ (i := 6) (N := some 31) #[true, true, true, true, true, true, true, true, true, true, true, false, false, true, false, false, false, false] rfl rfl (one_of HT_.out (by kernel_rfl)) (by decide) (fun K hK => ?_)
         refine goes_ Tryz.func63 (by kernel_rfl) rfl #[.int .i64 (wrap64 ((wrap64 ((t210.size : Int) - 1)) - x12_1))] (by rfl) rfl rfl z4_0_ ?_
         with_reducible refine (spec_tkWays.calls k2 (wrap64 ((wrap64 ((t210.size : Int) - 1)) - x12_1)) t211 _ A10.out).mono ?_
         rintro e w16 ⟨v212, rfl, ho0, hb⟩
         refine ⟨_, rfl, ?_⟩
         have n0_ := Aside0.mk (Kd.R_lower ho0 (below_size z4_1_))
         have n1_ := Aside0.mk (below_step z4_1_ hb)
         clear HB
         have HO213 := n0_
         have HB := n1_
         clear n0_ n1_
         have HI2 := Aside0.mk (spec_diOfSum.iter_below HI.out hb)
         clear HI
         have HI := HI2
         clear HI2
         (try clear hb)
         (try clear hb2)
         (try clear hk)
         (try clear hi)
         (try clear ho0)
         refine hK.out _ _ trivial (fun hHeld => ?_)
         clear hK K
         refine norm_ (a' := ?_) ?_ ?_
         rotate_left
         · show Act.put _ (some 31) _ = _
           simp only [Act.put, List.setIfInBounds_toArray, List.set_cons_zero, List.set_cons_succ, i64_w, i32_w]
           rfl
         refine one_ (i := 11) (N := some 36) #[true, true, true, true, true, true, true, true, true, true, true, true, false, true, false, false, false, false] rfl rfl (one_of HT_.out (by kernel_rfl)) (by decide) (fun K hK => ?_)
         refine goes_ Tryz.func60 (by kernel_rfl) rfl #[.string (t210.extract 0 (x12_1 : Int).toNat)] (by rfl) rfl rfl z4_0_ ?_
         with_reducible refine (spec_tkSum.calls k2 (t210.extract 0 (x12_1 : Int).toNat) t214 _ A13.out).mono ?_
         rintro e w' ⟨rfl, ⟨nd, rfl⟩⟩
         refine ⟨_, rfl, ?_⟩
         obtain ⟨Ao17, co17, eo17⟩ := Kd.R_slice HO213.out
         (first | subst eo17 | (injection eo17 with f1_ f2_ f3_; have f4_ := f1_.symm; have f5_ := f3_.symm; clear f1_ f2_ f3_; subst f4_; subst f5_))
         refine hK.out _ _ trivial (fun hHeld => ?_)
         clear hK K
         refine norm_ (a' := ?_) ?_ ?_
         rotate_left
         · show Act.put _ (some 36) _ = _
           simp only [Act.put, List.setIfInBounds_toArray, List.set_cons_zero, List.set_cons_succ, i64_w, i32_w]
           rfl
         refine pure_ (i := 12) (N := some 37) (v := ?_) (a' := ?_) #[true, true, true, true, true, true, true, true, true, true, true, true, true, true, false, false, false, false] rfl rfl (any_of HT_.out (by kernel_rfl)) (fun _ _ _ h => h) (Or.inl ⟨by rfl, ?_⟩) ?_ ?_
         rotate_left
         · intro w'
           go_simp
           with_reducible rfl
         rotate_left
         · simp only [Act.put, List.setIfInBounds_toArray, List.set_cons_zero, List.set_cons_succ, i64_w, i32_w]
           rfl
         refine pure_ (i := 14) (N := some 39) (v := ?_) (a' := ?_) #[true, true, true, true, true, true, true, true, true, true, true, true, true, true, true, false, false, false] rfl rfl (any_of HT_.out (by kernel_rfl)) (fun _ _ _ h => h) (Or.inl ⟨by rfl, ?_⟩) ?_ ?_
         rotate_left
         · intro w'
           go_simp
           with_reducible rfl
         rotate_left
         · simp only [Act.put, List.setIfInBounds_toArray, List.set_cons_zero, List.set_cons_succ, i64_w, i32_w]
           rfl
         refine one_ (i := 15) (N := some 40) #[true, true, true, true, true, true, true, true, true, true, true, true, true, true, true, true, false, false] rfl rfl (one_of HT_.out (by kernel_rfl)) (by decide) (fun K hK => ?_)
         refine goes_ Tryz.func62 (by kernel_rfl) rfl #[.slice Ao17 t211.length co17, .int .i64 (wrap64 ((wrap64 (a1 - t214)) - x8_2))] (by rfl) rfl rfl z4_0_ ?_
         with_reducible refine (spec_tkOf.calls _ _ t211 (wrap64 ((wrap64 (a1 - t214)) - x8_2)) t215 _ ?side1 ?side2 A14.out).mono ?_
         (case side1 => repeat (first | exact (Kd.R_reads' HO213.out).2.2 | (with_reducible refine Kd.C_alloc ?_ _) | (with_reducible refine Kd.C_drewN ?_ _) | (with_reducible refine Kd.C_drew ?_)))
         (case side2 => exact (Kd.R_reads' HO213.out).2.1)
         rintro e w' ⟨rfl, ⟨nd, rfl⟩⟩
         refine ⟨_, rfl, ?_⟩
         refine hK.out _ _ trivial (fun hHeld => ?_)
         clear hK K
         refine norm_ (a' := ?_) ?_ ?_
         rotate_left
         · show Act.put _ (some 40) _ = _
           simp only [Act.put, List.setIfInBounds_toArray, List.set_cons_zero, List.set_cons_succ, i64_w, i32_w]
           rfl
         refine pure_ (i := 16) (N := some 41) (v := ?_) (a' := ?_) #[true, true, true, true, true, true, true, true, true, true, true, true, true, true, true, true, true, false] rfl rfl (any_of HT_.out (by kernel_rfl)) (fun _ _ _ h => h) (Or.inl ⟨by rfl, ?_⟩) ?_ ?_
         rotate_left
         · intro w'
           go_simp
           with_reducible rfl
         rotate_left
         · simp only [Act.put, List.setIfInBounds_toArray, List.set_cons_zero, List.set_cons_succ, i64_w, i32_w]
           rfl
         refine pure_ (i := 17) (N := some 5) (v := ?_) (a' := ?_) #[true, true, true, true, true, true, true, true, true, true, true, true, true, true, true, true, true, true] rfl rfl (any_of HT_.out (by kernel_rfl)) (fun _ _ _ h => h) (Or.inl ⟨by rfl, ?_⟩) ?_ ?_
         rotate_left
         · intro w'
           go_simp
           with_reducible rfl
         rotate_left
         · simp only [Act.put, List.setIfInBounds_toArray, List.set_cons_zero, List.set_cons_succ, i64_w, i32_w]
           rfl
         refine done_ (done_of HT_.out (by kernel_rfl)) ?_
         try go_wp2
         go_roundg k2
         case measure => have := HK1.out; have := HK2.out; omega
         case rel => exact ⟨(wrap64 (x5_2 + t215)), (wrap64 (x8_2 + 1)), z4_2_, z4_2_, ⟨by first | exact HI.out | exact spec_diOfSum.iter_below HI.out (pw_below_drewN (Below.refl _ _) _) | exact spec_diOfSum.iter_below (spec_diOfSum.iter_below HI.out (pw_below_drewN (Below.refl _ _) _)) (pw_below_drewN (Below.refl _ _) _)⟩, H', ⟨by have := HK1.out; have := HK2.out; omega⟩, ⟨by repeat (first | (with_reducible first | exact HB.out | apply below_alloc | apply pw_below_drewN | apply below_drew1) | exact HB.out)⟩⟩
       rw [if_neg c9] at H
       have c9b0 : decide (x8_2 < (((bt t210 x12_1) - 48) % 256)) = false := decide_eq_false c9
       clear c9
       have H' := Aside0.mk H
       clear H
       have p8 : 0 ≤ (x12_1 : Int) := of_decide_eq_true (by first | (with_reducible assumption) | assumption)
       have q8 : x12_1 < (t210.size : Int) := of_decide_eq_true (by first | (with_reducible assumption) | assumption)
       have hx8 := bt_at t210 x12_1
       replace p8 := eq_true p8
       replace q8 := eq_true q8
       go_wp2
       go_roundg k2
       case measure => have := HK1.out; have := HK2.out; omega
       case rel => exact ⟨(x5_2), (wrap64 (x12_1 + 1)), n12 + 1, z4_2_, ⟨by rw [HN.out]; exact spec_diOfSum.wrapn n12 HS.out⟩, ⟨HI.out⟩, H', ⟨by have := HK1.out; have := HK2.out; omega⟩, ⟨by repeat (first | (with_reducible first | exact HB.out | apply below_alloc | apply pw_below_drewN | apply below_drew1) | exact HB.out)⟩⟩
   rw [if_neg c5] at H
   have hnx := fun ty => Lib.run_next_end_at (P := Tryz.prog) wr w4.heap.size t210 n12 ty HI.out (by have := HN.out; omega)
   have c5b0 : decide (x12_1 < (t210.size : Int)) = false := decide_eq_false c5
   clear c5
   replace H := Option.bind_eq_some_iff.mp H
   obtain ⟨t216, A180, H⟩ := H
   have A18 := Aside0.mk A180
   clear A180
   by_cases c19 : t216 = a1
   · rw [if_pos c19] at H
     have c19b0 : (t216 == a1) = true := beq_iff_eq.mpr c19
     have c19b1 : (t216 != a1) = false := bne_eq_false_iff_eq.mpr c19
     clear c19
     by_cases c20 : a1 = 0
     · rw [if_pos c20] at H
       have c20b0 : (a1 == 0) = true := beq_iff_eq.mpr c20
       have c20b1 : (a1 != 0) = false := bne_eq_false_iff_eq.mpr c20
       clear c20
       obtain rfl := Option.some.inj H
       go_wp2_with (first | ((with_reducible refine gate_callee (f := 36) rfl ?_); refine goesL_ (some 43) rfl rfl Tryz.func36 (by kernel_rfl) rfl #[.int .i64 a0] rfl z4_0_ ?_; (with_reducible refine (spec_diSum.calls k1 a0 t216 _ A18.out).mono ?_); rintro e w21 ⟨rfl, hb⟩; refine ⟨_, rfl, ?_⟩; have n0_ := Aside0.mk (below_step z4_1_ hb); clear HB; have HB := n0_; clear n0_; (try clear hb); (try clear hb2); (try clear hk); (try clear hi)))
       go_ret
       exact ⟨by first | rfl | (simp [errW_none, errW_some] <;> rfl) | (simp [*, errW_none, errW_some] <;> rfl), by repeat (first | (with_reducible first | exact HB.out | apply below_alloc | apply pw_below_drewN | apply below_drew1) | exact HB.out)⟩
     rw [if_neg c20] at H
     have c20b0 : (a1 == 0) = false := beq_eq_false_iff_ne.mpr c20
     have c20b1 : (a1 != 0) = true := bne_iff_ne.mpr c20
     obtain rfl := Option.some.inj H
     go_wp2_with (first | ((with_reducible refine gate_callee (f := 36) rfl ?_); refine goesL_ (some 43) rfl rfl Tryz.func36 (by kernel_rfl) rfl #[.int .i64 a0] rfl z4_0_ ?_; (with_reducible refine (spec_diSum.calls k1 a0 t216 _ A18.out).mono ?_); rintro e w22 ⟨rfl, hb⟩; refine ⟨_, rfl, ?_⟩; have n0_ := Aside0.mk (below_step z4_1_ hb); clear HB; have HB := n0_; clear n0_; (try clear hb); (try clear hb2); (try clear hk); (try clear hi)))
     go_ret
     exact ⟨by first | rfl | (simp [errW_none, errW_some] <;> rfl) | (simp [*, errW_none, errW_some] <;> rfl), by repeat (first | (with_reducible first | exact HB.out | apply below_alloc | apply pw_below_drewN | apply below_drew1) | exact HB.out)⟩
   rw [if_neg c19] at H
   have c19b0 : (t216 == a1) = false := beq_eq_false_iff_ne.mpr c19
   have c19b1 : (t216 != a1) = true := bne_iff_ne.mpr c19
   by_cases c23 : a1 = 0
   · rw [if_pos c23] at H
     have c23b0 : (a1 == 0) = true := beq_iff_eq.mpr c23
     have c23b1 : (a1 != 0) = false := bne_eq_false_iff_eq.mpr c23
     clear c23
     obtain rfl := Option.some.inj H
     go_wp2_with (first | ((with_reducible refine gate_callee (f := 36) rfl ?_); refine goesL_ (some 43) rfl rfl Tryz.func36 (by kernel_rfl) rfl #[.int .i64 a0] rfl z4_0_ ?_; (with_reducible refine (spec_diSum.calls k1 a0 t216 _ A18.out).mono ?_); rintro e w24 ⟨rfl, hb⟩; refine ⟨_, rfl, ?_⟩; have n0_ := Aside0.mk (below_step z4_1_ hb); clear HB; have HB := n0_; clear n0_; (try clear hb); (try clear hb2); (try clear hk); (try clear hi)))
     go_ret
     exact ⟨by first | rfl | (simp [errW_none, errW_some] <;> rfl) | (simp [*, errW_none, errW_some] <;> rfl), by repeat (first | (with_reducible first | exact HB.out | apply below_alloc | apply pw_below_drewN | apply below_drew1) | exact HB.out)⟩
   rw [if_neg c23] at H
   have c23b0 : (a1 == 0) = false := beq_eq_false_iff_ne.mpr c23
   have c23b1 : (a1 != 0) = true := bne_iff_ne.mpr c23
   obtain rfl := Option.some.inj H
   go_wp2_with (first | ((with_reducible refine gate_callee (f := 36) rfl ?_); refine goesL_ (some 43) rfl rfl Tryz.func36 (by kernel_rfl) rfl #[.int .i64 a0] rfl z4_0_ ?_; (with_reducible refine (spec_diSum.calls k1 a0 t216 _ A18.out).mono ?_); rintro e w25 ⟨rfl, hb⟩; refine ⟨_, rfl, ?_⟩; have n0_ := Aside0.mk (below_step z4_1_ hb); clear HB; have HB := n0_; clear n0_; (try clear hb); (try clear hb2); (try clear hk); (try clear hi)))
   go_ret
   exact ⟨by first | rfl | (simp [errW_none, errW_some] <;> rfl) | (simp [*, errW_none, errW_some] <;> rfl), by repeat (first | (with_reducible first | exact HB.out | apply below_alloc | apply pw_below_drewN | apply below_drew1) | exact HB.out)⟩

/-! ### spec_diOfRank: function 35 -/
def spec_diOfRank.l0 : Nat → Int → Int → Int → Int → Option (Int × Bool)
 | 0, _, _, _, _ => none
 | k + 1, x0, x1, x6, x7 => if x6 < x7 then ((spec_diOfSum.f k (wrap64 (Int.tdiv (wrap64 (x6 + x7)) 2)) x0).bind fun t211 => (if t211 > x1 then (spec_diOfRank.l0 k x0 x1 x6 (wrap64 (Int.tdiv (wrap64 (x6 + x7)) 2))) else (spec_diOfRank.l0 k x0 x1 (wrap64 ((wrap64 (Int.tdiv (wrap64 (x6 + x7)) 2)) + 1)) x7))) else (some (x6, true))
def spec_diOfRank.f (k : Nat) (a0 : Int) (a1 : Int) : Option (Int × Bool) := (spec_diOfSum.f k 1000000000000 a0).bind fun t210 => (if a1 ≥ t210 then (some (0, false)) else (spec_diOfRank.l0 k a0 a1 1 1000000000000))
theorem spec_diOfRank.mono_l : ∀ k, (∀ y0 y1 y2 y3, LeO (spec_diOfRank.l0 k y0 y1 y2 y3) (spec_diOfRank.l0 (k + 1) y0 y1 y2 y3))
 | 0 => fun _ _ _ _ r h => by simp [spec_diOfRank.l0] at h
 | k + 1 => by
  have ih0 := spec_diOfRank.mono_l k
  intro y0 y1 y2 y3
  unfold spec_diOfRank.l0
  repeat' first
  | (with_reducible exact ih0 _ _ _ _)
  | (with_reducible exact spec_diOfSum.mono _ _ _)
  | (with_reducible exact LeO.refl _)
  | (with_reducible exact LeO.none _)
  | (with_reducible refine LeO.ite ?_ ?_)
  | (with_reducible refine LeO.bind ?_ (fun _ => ?_))
  | exact ih0 _ _ _ _
  | exact spec_diOfSum.mono _ _ _
  | exact LeO.none _
  | refine LeO.ite ?_ ?_
  | refine LeO.bind ?_ (fun _ => ?_)
theorem spec_diOfRank.mono : ∀ a0 a1 k, LeO (spec_diOfRank.f k a0 a1) (spec_diOfRank.f (k + 1) a0 a1) := by
 intro a0 a1 k
 have ih0 := spec_diOfRank.mono_l k
 unfold spec_diOfRank.f
 repeat' first
  | (with_reducible exact ih0 _ _ _ _)
  | (with_reducible exact spec_diOfSum.mono _ _ _)
  | (with_reducible exact LeO.refl _)
  | (with_reducible exact LeO.none _)
  | (with_reducible refine LeO.ite ?_ ?_)
  | (with_reducible refine LeO.bind ?_ (fun _ => ?_))
  | exact ih0 _ _ _ _
  | exact spec_diOfSum.mono _ _ _
  | exact LeO.none _
  | refine LeO.ite ?_ ?_
  | refine LeO.bind ?_ (fun _ => ?_)
set_option maxHeartbeats 8000000 in
set_option maxRecDepth 100000 in
theorem spec_diOfRank.calls (k : Nat) (a0 : Int) (a1 : Int) (r1 : Int) (r2 : Bool) (w : World) (h : spec_diOfRank.f k a0 a1 = some (r1, r2)) :
 Calls Tryz.prog 35 #[.int .i64 a0, .int .i64 a1] w fun e w' => e = .returned (.tuple #[.int .i64 r1, .bool r2]) ∧ Below w.heap.size w w' := by
 have HB := Aside0.mk (Below.refl w.heap.size w)
 have H : ((spec_diOfSum.f k 1000000000000 a0).bind fun t210 => (if a1 ≥ t210 then (some (0, false)) else (spec_diOfRank.l0 k a0 a1 1 1000000000000))) = some (r1, r2) := h
 clear h
 replace H := Option.bind_eq_some_iff.mp H
 obtain ⟨t210, A30, H⟩ := H
 have A3 := Aside0.mk A30
 clear A30
 by_cases c4 : a1 ≥ t210
 · rw [if_pos c4] at H
   have c4b0 : decide (t210 ≤ a1) = true := decide_eq_true c4
   clear c4
   simp only [Option.some.injEq, Prod.mk.injEq] at H
   obtain ⟨rfl, rfl⟩ := H
   go_enter Tryz.func35, Tryz.ntmps35
   go_wp2_with (first | ((with_reducible refine gate_callee (f := 37) rfl ?_); refine goesL_ (some 11) rfl rfl Tryz.func37 (by kernel_rfl) rfl #[.int .i64 1000000000000, .int .i64 a0] rfl z4_0_ ?_; (with_reducible refine (spec_diOfSum.calls k 1000000000000 a0 t210 _ A3.out).mono ?_); rintro e w5 ⟨rfl, hb⟩; refine ⟨_, rfl, ?_⟩; have n0_ := Aside0.mk (below_step z4_1_ hb); clear HB; have HB := n0_; clear n0_; (try clear hb); (try clear hb2); (try clear hk); (try clear hi)))
   go_ret2
   exact ⟨by first | rfl | (simp [errW_none, errW_some] <;> rfl) | (simp [*, errW_none, errW_some] <;> rfl), by repeat (first | (with_reducible first | exact HB.out | apply below_alloc | apply pw_below_drewN | apply below_drew1) | exact HB.out)⟩
 rw [if_neg c4] at H
 have c4b0 : decide (t210 ≤ a1) = false := decide_eq_false c4
 clear c4
 have H' := Aside0.mk H
 clear H
 go_enter Tryz.func35, Tryz.ntmps35
 go_wp2_with (first | ((with_reducible refine gate_callee (f := 37) rfl ?_); refine goesL_ (some 11) rfl rfl Tryz.func37 (by kernel_rfl) rfl #[.int .i64 1000000000000, .int .i64 a0] rfl z4_0_ ?_; (with_reducible refine (spec_diOfSum.calls k 1000000000000 a0 t210 _ A3.out).mono ?_); rintro e w6 ⟨rfl, hb⟩; refine ⟨_, rfl, ?_⟩; have n0_ := Aside0.mk (below_step z4_1_ hb); clear HB; have HB := n0_; clear n0_; (try clear hb); (try clear hb2); (try clear hk); (try clear hi)))
 go_loopg [6, 7] k (fun kq v6 v7 w' => ∃ (x6_1 : Int) (x7_1 : Int), v6 = .int .i64 x6_1 ∧ v7 = .int .i64 x7_1 ∧ Aside0 (spec_diOfRank.l0 kq a0 a1 x6_1 x7_1 = some (r1, r2)) ∧ Aside0 (kq ≤ k) ∧ Aside0 (Below w.heap.size w w'))
 case atStart => exact ⟨(1), (1000000000000), z4_2_, z4_2_, H', ⟨Nat.le_refl _⟩, ⟨by repeat (first | (with_reducible first | exact HB.out | apply below_alloc | apply pw_below_drewN | apply below_drew1) | exact HB.out)⟩⟩
 case round =>
  clear H'
  (try clear p2);(try clear c3);(try clear c4);(try clear c4b0)
  obtain ⟨x6_1, x7_1, rfl, rfl, HA, HK1, HB⟩ := hrel
  cases gk with
  | zero => exact absurd HA.out (by simp [spec_diOfRank.l0])
  | succ k1 =>
   have H := HA.out
   clear HA
   simp only [spec_diOfRank.l0] at H
   by_cases c7 : x6_1 < x7_1
   · rw [if_pos c7] at H
     have c7b0 : decide (x6_1 < x7_1) = true := decide_eq_true c7
     clear c7
     replace H := Option.bind_eq_some_iff.mp H
     obtain ⟨t211, A80, H⟩ := H
     have A8 := Aside0.mk A80
     clear A80
     by_cases c9 : t211 > a1
     · rw [if_pos c9] at H
       have c9b0 : decide (a1 < t211) = true := decide_eq_true c9
       clear c9
       have H' := Aside0.mk H
       clear H
       go_wp2_with (first | ((with_reducible refine gate_callee (f := 37) rfl ?_); refine goesL_ (some 22) rfl rfl Tryz.func37 (by kernel_rfl) rfl #[.int .i64 (wrap64 (Int.tdiv (wrap64 (x6_1 + x7_1)) 2)), .int .i64 a0] rfl z4_0_ ?_; (with_reducible refine (spec_diOfSum.calls k1 (wrap64 (Int.tdiv (wrap64 (x6_1 + x7_1)) 2)) a0 t211 _ A8.out).mono ?_); rintro e w10 ⟨rfl, hb⟩; refine ⟨_, rfl, ?_⟩; have n0_ := Aside0.mk (below_step z4_1_ hb); clear HB; have HB := n0_; clear n0_; (try clear hb); (try clear hb2); (try clear hk); (try clear hi)))
       go_roundg k1
       case measure => have := HK1.out; omega
       case rel => exact ⟨(x6_1), (wrap64 (Int.tdiv (wrap64 (x6_1 + x7_1)) 2)), z4_2_, z4_2_, H', ⟨by have := HK1.out; omega⟩, ⟨by repeat (first | (with_reducible first | exact HB.out | apply below_alloc | apply pw_below_drewN | apply below_drew1) | exact HB.out)⟩⟩
     rw [if_neg c9] at H
     have c9b0 : decide (a1 < t211) = false := decide_eq_false c9
     clear c9
     have H' := Aside0.mk H
     clear H
     go_wp2_with (first | ((with_reducible refine gate_callee (f := 37) rfl ?_); refine goesL_ (some 22) rfl rfl Tryz.func37 (by kernel_rfl) rfl #[.int .i64 (wrap64 (Int.tdiv (wrap64 (x6_1 + x7_1)) 2)), .int .i64 a0] rfl z4_0_ ?_; (with_reducible refine (spec_diOfSum.calls k1 (wrap64 (Int.tdiv (wrap64 (x6_1 + x7_1)) 2)) a0 t211 _ A8.out).mono ?_); rintro e w11 ⟨rfl, hb⟩; refine ⟨_, rfl, ?_⟩; have n0_ := Aside0.mk (below_step z4_1_ hb); clear HB; have HB := n0_; clear n0_; (try clear hb); (try clear hb2); (try clear hk); (try clear hi)))
     go_roundg k1
     case measure => have := HK1.out; omega
     case rel => exact ⟨(wrap64 ((wrap64 (Int.tdiv (wrap64 (x6_1 + x7_1)) 2)) + 1)), (x7_1), z4_2_, z4_2_, H', ⟨by have := HK1.out; omega⟩, ⟨by repeat (first | (with_reducible first | exact HB.out | apply below_alloc | apply pw_below_drewN | apply below_drew1) | exact HB.out)⟩⟩
   rw [if_neg c7] at H
   have c7b0 : decide (x6_1 < x7_1) = false := decide_eq_false c7
   clear c7
   simp only [Option.some.injEq, Prod.mk.injEq] at H
   obtain ⟨rfl, rfl⟩ := H
   go_wp2
   go_ret2
   exact ⟨by first | rfl | (simp [errW_none, errW_some] <;> rfl) | (simp [*, errW_none, errW_some] <;> rfl), by repeat (first | (with_reducible first | exact HB.out | apply below_alloc | apply pw_below_drewN | apply below_drew1) | exact HB.out)⟩

/-! ### spec_NextOfSum: function 7 -/
def spec_NextOfSum.f (k : Nat) (a0 : Int) : Option (Int × Bool) := (spec_l1In.f a0 1 1000000000000).bind fun t212 => (if t212 = true then ((spec_diSum.f k a0).bind fun t213 => ((spec_diSum.f k a0).bind fun t214 => ((spec_diOfSum.f k a0 t214).bind fun t215 => ((spec_diOfRank.f k t213 t215).bind fun bt216 => (some (bt216.1, bt216.2)))))) else (some (0, false)))
theorem spec_NextOfSum.mono : ∀ a0 k, LeO (spec_NextOfSum.f k a0) (spec_NextOfSum.f (k + 1) a0) := by
 intro a0 k
 unfold spec_NextOfSum.f
 repeat' first
  | (with_reducible exact spec_diOfRank.mono _ _ _)
  | (with_reducible exact spec_diOfSum.mono _ _ _)
  | (with_reducible exact spec_diSum.mono _ _)
  | (with_reducible exact LeO.refl _)
  | (with_reducible exact LeO.none _)
  | (with_reducible refine LeO.ite ?_ ?_)
  | (with_reducible refine LeO.bind ?_ (fun _ => ?_))
  | exact spec_diOfRank.mono _ _ _
  | exact spec_diOfSum.mono _ _ _
  | exact spec_diSum.mono _ _
  | exact LeO.none _
  | refine LeO.ite ?_ ?_
  | refine LeO.bind ?_ (fun _ => ?_)
set_option maxHeartbeats 8000000 in
set_option maxRecDepth 100000 in
theorem spec_NextOfSum.calls (k : Nat) (a0 : Int) (r1 : Int) (r2 : Bool) (w : World) (h : spec_NextOfSum.f k a0 = some (r1, r2)) :
 Calls Tryz.prog 7 #[.int .i64 a0] w fun e w' => e = .returned (.tuple #[.int .i64 r1, .bool r2]) ∧ Below w.heap.size w w' := by
 have HB := Aside0.mk (Below.refl w.heap.size w)
 have H : ((spec_l1In.f a0 1 1000000000000).bind fun t212 => (if t212 = true then ((spec_diSum.f k a0).bind fun t213 => ((spec_diSum.f k a0).bind fun t214 => ((spec_diOfSum.f k a0 t214).bind fun t215 => ((spec_diOfRank.f k t213 t215).bind fun bt216 => (some (bt216.1, bt216.2)))))) else (some (0, false)))) = some (r1, r2) := h
 clear h
 replace H := Option.bind_eq_some_iff.mp H
 obtain ⟨t212, A20, H⟩ := H
 have A2 := Aside0.mk A20
 clear A20
 by_cases c3 : t212 = true
 · subst c3
   have H1 : ((spec_diSum.f k a0).bind fun t213 => ((spec_diSum.f k a0).bind fun t214 => ((spec_diOfSum.f k a0 t214).bind fun t215 => ((spec_diOfRank.f k t213 t215).bind fun bt216 => (some (bt216.1, bt216.2)))))) = some (r1, r2) := by rw [if_pos rfl] at H; exact H
   clear H
   have H := H1
   clear H1
   replace H := Option.bind_eq_some_iff.mp H
   obtain ⟨t213, A40, H⟩ := H
   have A4 := Aside0.mk A40
   clear A40
   replace H := Option.bind_eq_some_iff.mp H
   obtain ⟨t214, A50, H⟩ := H
   have A5 := Aside0.mk A50
   clear A50
   replace H := Option.bind_eq_some_iff.mp H
   obtain ⟨t215, A60, H⟩ := H
   have A6 := Aside0.mk A60
   clear A60
   replace H := Option.bind_eq_some_iff.mp H
   obtain ⟨⟨t216, t217⟩, A70, H⟩ := H
   dsimp only at H
   have A7 := Aside0.mk A70
   clear A70
   simp only [Option.some.injEq, Prod.mk.injEq] at H
   obtain ⟨rfl, rfl⟩ := H
   go_enter Tryz.func7, Tryz.ntmps7
   go_wp2_with (first | ((with_reducible refine gate_callee (f := 34) rfl ?_); refine goesL_ (some 5) rfl rfl Tryz.func34 (by kernel_rfl) rfl #[.int .i64 a0, .int .i64 1, .int .i64 1000000000000] rfl z4_0_ ?_; (with_reducible refine (spec_l1In.calls a0 1 1000000000000 true _ A2.out).mono ?_); rintro e w' ⟨rfl, ⟨nd, rfl⟩⟩; refine ⟨_, rfl, ?_⟩) | ((with_reducible refine gate_callee (f := 36) rfl ?_); refine goesL_ (some 8) rfl rfl Tryz.func36 (by kernel_rfl) rfl #[.int .i64 a0] rfl z4_0_ ?_; (with_reducible refine (spec_diSum.calls k a0 t213 _ A4.out).mono ?_); rintro e w8 ⟨rfl, hb⟩; refine ⟨_, rfl, ?_⟩; have n0_ := Aside0.mk (below_step z4_1_ hb); clear HB; have HB := n0_; clear n0_; (try clear hb); (try clear hb2); (try clear hk); (try clear hi)) | ((with_reducible refine gate_callee (f := 36) rfl ?_); refine goesL_ (some 11) rfl rfl Tryz.func36 (by kernel_rfl) rfl #[.int .i64 a0] rfl z4_0_ ?_; (with_reducible refine (spec_diSum.calls k a0 t214 _ A5.out).mono ?_); rintro e w9 ⟨rfl, hb⟩; refine ⟨_, rfl, ?_⟩; have n0_ := Aside0.mk (below_step z4_1_ hb); clear HB; have HB := n0_; clear n0_; (try clear hb); (try clear hb2); (try clear hk); (try clear hi)) | ((with_reducible refine gate_callee (f := 37) rfl ?_); refine goesL_ (some 12) rfl rfl Tryz.func37 (by kernel_rfl) rfl #[.int .i64 a0, .int .i64 t214] rfl z4_0_ ?_; (with_reducible refine (spec_diOfSum.calls k a0 t214 t215 _ A6.out).mono ?_); rintro e w10 ⟨rfl, hb⟩; refine ⟨_, rfl, ?_⟩; have n0_ := Aside0.mk (below_step z4_1_ hb); clear HB; have HB := n0_; clear n0_; (try clear hb); (try clear hb2); (try clear hk); (try clear hi)) | ((with_reducible refine gate_callee (f := 35) rfl ?_); refine goesL_ (some 13) rfl rfl Tryz.func35 (by kernel_rfl) rfl #[.int .i64 t213, .int .i64 t215] rfl z4_0_ ?_; (with_reducible refine (spec_diOfRank.calls k t213 t215 t216 t217 _ A7.out).mono ?_); rintro e w11 ⟨rfl, hb⟩; refine ⟨_, rfl, ?_⟩; have n0_ := Aside0.mk (below_step z4_1_ hb); clear HB; have HB := n0_; clear n0_; (try clear hb); (try clear hb2); (try clear hk); (try clear hi)))
   go_ret2
   exact ⟨by first | rfl | (simp [errW_none, errW_some] <;> rfl) | (simp [*, errW_none, errW_some] <;> rfl), by repeat (first | (with_reducible first | exact HB.out | apply below_alloc | apply pw_below_drewN | apply below_drew1) | exact HB.out)⟩
 replace c3 := Bool.eq_false_iff.mpr c3
 subst c3
 have H1 : (some (0, false)) = some (r1, r2) := by rw [if_neg (show ¬ (false = true) by decide)] at H; exact H
 clear H
 have H := H1
 clear H1
 simp only [Option.some.injEq, Prod.mk.injEq] at H
 obtain ⟨rfl, rfl⟩ := H
 go_enter Tryz.func7, Tryz.ntmps7
 go_wp2_with (first | ((with_reducible refine gate_callee (f := 34) rfl ?_); refine goesL_ (some 5) rfl rfl Tryz.func34 (by kernel_rfl) rfl #[.int .i64 a0, .int .i64 1, .int .i64 1000000000000] rfl z4_0_ ?_; (with_reducible refine (spec_l1In.calls a0 1 1000000000000 false _ A2.out).mono ?_); rintro e w' ⟨rfl, ⟨nd, rfl⟩⟩; refine ⟨_, rfl, ?_⟩))
 go_ret2
 exact ⟨by first | rfl | (simp [errW_none, errW_some] <;> rfl) | (simp [*, errW_none, errW_some] <;> rfl), by repeat (first | (with_reducible first | exact HB.out | apply below_alloc | apply pw_below_drewN | apply below_drew1) | exact HB.out)⟩

/-! ### impl_isWritten: function 38 -/
def impl_isWritten.f (a0 : Int) : Option (Bool) := (impl_within.f a0 0 1000000000000).bind fun t218 => (some t218)
set_option maxHeartbeats 8000000 in
set_option maxRecDepth 100000 in
theorem impl_isWritten.calls (a0 : Int) (r : Bool) (w : World) (h : impl_isWritten.f a0 = some r) :
 Calls Tryz.prog 38 #[.int .i64 a0] w fun e w' => e = .returned (.bool r) ∧ Drawn0 w w' := by
 have H : ((impl_within.f a0 0 1000000000000).bind fun t218 => (some t218)) = some r := h
 clear h
 replace H := Option.bind_eq_some_iff.mp H
 obtain ⟨t218, A20, H⟩ := H
 have A2 := Aside0.mk A20
 clear A20
 obtain rfl := Option.some.inj H
 go_enter Tryz.func38, Tryz.ntmps38
 go_wp2_with (first | ((with_reducible refine gate_callee (f := 31) rfl ?_); refine goesL_ (some 4) rfl rfl Tryz.func31 (by kernel_rfl) rfl #[.int .i64 a0, .int .i64 0, .int .i64 1000000000000] rfl z4_0_ ?_; (with_reducible refine (impl_within.calls a0 0 1000000000000 t218 _ A2.out).mono ?_); rintro e w' ⟨rfl, ⟨nd, rfl⟩⟩; refine ⟨_, rfl, ?_⟩))
 go_ret
 exact ⟨by first | rfl | (simp; done) | (simp [*]; done), by repeat (first | exact Drawn0.refl _ | apply Drawn0.step)⟩

/-! ### impl_DigitSum: function 8 -/
def impl_DigitSum.f (k : Nat) (a0 : Int) : Option (Int × Bool) := (impl_isWritten.f a0).bind fun t219 => (if t219 = true then ((impl_digitSum.f k a0).bind fun t220 => (some (t220, true))) else (some (0, false)))
theorem impl_DigitSum.mono : ∀ a0 k, LeO (impl_DigitSum.f k a0) (impl_DigitSum.f (k + 1) a0) := by
 intro a0 k
 unfold impl_DigitSum.f
 repeat' first
  | (with_reducible exact impl_digitSum.mono _ _)
  | (with_reducible exact LeO.refl _)
  | (with_reducible exact LeO.none _)
  | (with_reducible refine LeO.ite ?_ ?_)
  | (with_reducible refine LeO.bind ?_ (fun _ => ?_))
  | exact impl_digitSum.mono _ _
  | exact LeO.none _
  | refine LeO.ite ?_ ?_
  | refine LeO.bind ?_ (fun _ => ?_)
set_option maxHeartbeats 8000000 in
set_option maxRecDepth 100000 in
theorem impl_DigitSum.calls (k : Nat) (a0 : Int) (r1 : Int) (r2 : Bool) (w : World) (hT : Shelf.TabOk w) (h : impl_DigitSum.f k a0 = some (r1, r2)) :
 Calls Tryz.prog 8 #[.int .i64 a0] w fun e w' => e = .returned (.tuple #[.int .i64 r1, .bool r2]) ∧ Below w.heap.size w w' := by
 have HT := Aside0.mk hT
 clear hT
 have HB := Aside0.mk (Below.refl w.heap.size w)
 have H : ((impl_isWritten.f a0).bind fun t219 => (if t219 = true then ((impl_digitSum.f k a0).bind fun t220 => (some (t220, true))) else (some (0, false)))) = some (r1, r2) := h
 clear h
 replace H := Option.bind_eq_some_iff.mp H
 obtain ⟨t219, A20, H⟩ := H
 have A2 := Aside0.mk A20
 clear A20
 by_cases c3 : t219 = true
 · subst c3
   have H1 : ((impl_digitSum.f k a0).bind fun t220 => (some (t220, true))) = some (r1, r2) := by rw [if_pos rfl] at H; exact H
   clear H
   have H := H1
   clear H1
   replace H := Option.bind_eq_some_iff.mp H
   obtain ⟨t220, A40, H⟩ := H
   have A4 := Aside0.mk A40
   clear A40
   simp only [Option.some.injEq, Prod.mk.injEq] at H
   obtain ⟨rfl, rfl⟩ := H
   go_enter Tryz.func8, Tryz.ntmps8
   go_wp2_with (first | ((with_reducible refine gate_callee (f := 38) rfl ?_); refine goesL_ (some 5) rfl rfl Tryz.func38 (by kernel_rfl) rfl #[.int .i64 a0] rfl z4_0_ ?_; (with_reducible refine (impl_isWritten.calls a0 true _ A2.out).mono ?_); rintro e w' ⟨rfl, ⟨nd, rfl⟩⟩; refine ⟨_, rfl, ?_⟩) | ((with_reducible refine gate_callee (f := 32) rfl ?_); refine goesL_ (some 8) rfl rfl Tryz.func32 (by kernel_rfl) rfl #[.int .i64 a0] rfl z4_0_ ?_; (with_reducible refine (impl_digitSum.calls k a0 t220 _ ?side1 A4.out).mono ?_); (case side1 => exact Shelf.TabOk.below HT.out z4_1_); rintro e w5 ⟨rfl, hb⟩; refine ⟨_, rfl, ?_⟩; have n0_ := Aside0.mk (below_step z4_1_ hb); clear HB; have HB := n0_; clear n0_; (try clear hb); (try clear hb2); (try clear hk); (try clear hi)))
   go_ret2
   exact ⟨by first | rfl | (simp [errW_none, errW_some] <;> rfl) | (simp [*, errW_none, errW_some] <;> rfl), by repeat (first | (with_reducible first | exact HB.out | apply below_alloc | apply pw_below_drewN | apply below_drew1) | exact HB.out)⟩
 replace c3 := Bool.eq_false_iff.mpr c3
 subst c3
 have H1 : (some (0, false)) = some (r1, r2) := by rw [if_neg (show ¬ (false = true) by decide)] at H; exact H
 clear H
 have H := H1
 clear H1
 simp only [Option.some.injEq, Prod.mk.injEq] at H
 obtain ⟨rfl, rfl⟩ := H
 go_enter Tryz.func8, Tryz.ntmps8
 go_wp2_with (first | ((with_reducible refine gate_callee (f := 38) rfl ?_); refine goesL_ (some 5) rfl rfl Tryz.func38 (by kernel_rfl) rfl #[.int .i64 a0] rfl z4_0_ ?_; (with_reducible refine (impl_isWritten.calls a0 false _ A2.out).mono ?_); rintro e w' ⟨rfl, ⟨nd, rfl⟩⟩; refine ⟨_, rfl, ?_⟩))
 go_ret2
 exact ⟨by first | rfl | (simp [errW_none, errW_some] <;> rfl) | (simp [*, errW_none, errW_some] <;> rfl), by repeat (first | (with_reducible first | exact HB.out | apply below_alloc | apply pw_below_drewN | apply below_drew1) | exact HB.out)⟩

/-! ### spec_diGood: function 39 -/
def spec_diGood.f (a0 : Int) : Option (Bool) := (spec_l1In.f a0 0 1000000000000).bind fun t221 => (some t221)
set_option maxHeartbeats 8000000 in
set_option maxRecDepth 100000 in
theorem spec_diGood.calls (a0 : Int) (r : Bool) (w : World) (h : spec_diGood.f a0 = some r) :
 Calls Tryz.prog 39 #[.int .i64 a0] w fun e w' => e = .returned (.bool r) ∧ Drawn0 w w' := by
 have H : ((spec_l1In.f a0 0 1000000000000).bind fun t221 => (some t221)) = some r := h
 clear h
 replace H := Option.bind_eq_some_iff.mp H
 obtain ⟨t221, A20, H⟩ := H
 have A2 := Aside0.mk A20
 clear A20
 obtain rfl := Option.some.inj H
 go_enter Tryz.func39, Tryz.ntmps39
 go_wp2_with (first | ((with_reducible refine gate_callee (f := 34) rfl ?_); refine goesL_ (some 4) rfl rfl Tryz.func34 (by kernel_rfl) rfl #[.int .i64 a0, .int .i64 0, .int .i64 1000000000000] rfl z4_0_ ?_; (with_reducible refine (spec_l1In.calls a0 0 1000000000000 t221 _ A2.out).mono ?_); rintro e w' ⟨rfl, ⟨nd, rfl⟩⟩; refine ⟨_, rfl, ?_⟩))
 go_ret
 exact ⟨by first | rfl | (simp; done) | (simp [*]; done), by repeat (first | exact Drawn0.refl _ | apply Drawn0.step)⟩

/-! ### spec_DigitSum: function 9 -/
def spec_DigitSum.f (k : Nat) (a0 : Int) : Option (Int × Bool) := (spec_diGood.f a0).bind fun t222 => (if t222 = true then ((spec_diSum.f k a0).bind fun t223 => (some (t223, true))) else (some (0, false)))
theorem spec_DigitSum.mono : ∀ a0 k, LeO (spec_DigitSum.f k a0) (spec_DigitSum.f (k + 1) a0) := by
 intro a0 k
 unfold spec_DigitSum.f
 repeat' first
  | (with_reducible exact spec_diSum.mono _ _)
  | (with_reducible exact LeO.refl _)
  | (with_reducible exact LeO.none _)
  | (with_reducible refine LeO.ite ?_ ?_)
  | (with_reducible refine LeO.bind ?_ (fun _ => ?_))
  | exact spec_diSum.mono _ _
  | exact LeO.none _
  | refine LeO.ite ?_ ?_
  | refine LeO.bind ?_ (fun _ => ?_)
set_option maxHeartbeats 8000000 in
set_option maxRecDepth 100000 in
theorem spec_DigitSum.calls (k : Nat) (a0 : Int) (r1 : Int) (r2 : Bool) (w : World) (h : spec_DigitSum.f k a0 = some (r1, r2)) :
 Calls Tryz.prog 9 #[.int .i64 a0] w fun e w' => e = .returned (.tuple #[.int .i64 r1, .bool r2]) ∧ Below w.heap.size w w' := by
 have HB := Aside0.mk (Below.refl w.heap.size w)
 have H : ((spec_diGood.f a0).bind fun t222 => (if t222 = true then ((spec_diSum.f k a0).bind fun t223 => (some (t223, true))) else (some (0, false)))) = some (r1, r2) := h
 clear h
 replace H := Option.bind_eq_some_iff.mp H
 obtain ⟨t222, A20, H⟩ := H
 have A2 := Aside0.mk A20
 clear A20
 by_cases c3 : t222 = true
 · subst c3
   have H1 : ((spec_diSum.f k a0).bind fun t223 => (some (t223, true))) = some (r1, r2) := by rw [if_pos rfl] at H; exact H
   clear H
   have H := H1
   clear H1
   replace H := Option.bind_eq_some_iff.mp H
   obtain ⟨t223, A40, H⟩ := H
   have A4 := Aside0.mk A40
   clear A40
   simp only [Option.some.injEq, Prod.mk.injEq] at H
   obtain ⟨rfl, rfl⟩ := H
   go_enter Tryz.func9, Tryz.ntmps9
   go_wp2_with (first | ((with_reducible refine gate_callee (f := 39) rfl ?_); refine goesL_ (some 5) rfl rfl Tryz.func39 (by kernel_rfl) rfl #[.int .i64 a0] rfl z4_0_ ?_; (with_reducible refine (spec_diGood.calls a0 true _ A2.out).mono ?_); rintro e w' ⟨rfl, ⟨nd, rfl⟩⟩; refine ⟨_, rfl, ?_⟩) | ((with_reducible refine gate_callee (f := 36) rfl ?_); refine goesL_ (some 8) rfl rfl Tryz.func36 (by kernel_rfl) rfl #[.int .i64 a0] rfl z4_0_ ?_; (with_reducible refine (spec_diSum.calls k a0 t223 _ A4.out).mono ?_); rintro e w5 ⟨rfl, hb⟩; refine ⟨_, rfl, ?_⟩; have n0_ := Aside0.mk (below_step z4_1_ hb); clear HB; have HB := n0_; clear n0_; (try clear hb); (try clear hb2); (try clear hk); (try clear hi)))
   go_ret2
   exact ⟨by first | rfl | (simp [errW_none, errW_some] <;> rfl) | (simp [*, errW_none, errW_some] <;> rfl), by repeat (first | (with_reducible first | exact HB.out | apply below_alloc | apply pw_below_drewN | apply below_drew1) | exact HB.out)⟩
 replace c3 := Bool.eq_false_iff.mpr c3
 subst c3
 have H1 : (some (0, false)) = some (r1, r2) := by rw [if_neg (show ¬ (false = true) by decide)] at H; exact H
 clear H
 have H := H1
 clear H1
 simp only [Option.some.injEq, Prod.mk.injEq] at H
 obtain ⟨rfl, rfl⟩ := H
 go_enter Tryz.func9, Tryz.ntmps9
 go_wp2_with (first | ((with_reducible refine gate_callee (f := 39) rfl ?_); refine goesL_ (some 5) rfl rfl Tryz.func39 (by kernel_rfl) rfl #[.int .i64 a0] rfl z4_0_ ?_; (with_reducible refine (spec_diGood.calls a0 false _ A2.out).mono ?_); rintro e w' ⟨rfl, ⟨nd, rfl⟩⟩; refine ⟨_, rfl, ?_⟩))
 go_ret2
 exact ⟨by first | rfl | (simp [errW_none, errW_some] <;> rfl) | (simp [*, errW_none, errW_some] <;> rfl), by repeat (first | (with_reducible first | exact HB.out | apply below_alloc | apply pw_below_drewN | apply below_drew1) | exact HB.out)⟩

/-! ### impl_untilOne: function 40 -/
def impl_untilOne.go (f : Int → Option Int) : Nat → Int → Int → Option (Int × Int)
 | 0, _, _ => none
 | c + 1, n, t => if n > 9 then (f n).bind fun m => impl_untilOne.go f c m (wrap64 (t + 1)) else some (n, t)
theorem impl_untilOne.go_mono {f f' : Int → Option Int} (hf : ∀ x, LeO (f x) (f' x)) : ∀ c n t, LeO (impl_untilOne.go f c n t) (impl_untilOne.go f' (c + 1) n t)
 | 0, _, _ => fun r h => by simp [impl_untilOne.go] at h
 | c + 1, n, t => by
  unfold impl_untilOne.go
  exact LeO.ite (LeO.bind (hf _) (fun m => impl_untilOne.go_mono hf c _ _)) (LeO.refl _)
set_option maxHeartbeats 8000000 in
set_option maxRecDepth 100000 in
theorem impl_untilOne.calls (f : Int → Option Int) (k : Nat) (g : FuncId) (fn : Func) (lb : Array Value) (n : Int) (r : Int × Int) (w : World)
 (hf : Tryz.prog.funcs[g]? = some fn) (hname : (fn.name == "runtime.NumGoroutine") = false) (hb : fn.body.isSome = true)
 (hp : ∀ x t W, f x = some t → Below w.heap.size w W → Calls Tryz.prog g (#[.int .i64 x] ++ lb) W fun e W' => e = .returned (.int .i64 t) ∧ Below W.heap.size W W')
 (h : impl_untilOne.go f k n 0 = some r) :
 Calls Tryz.prog 40 #[.int .i64 n, .func (.func g) #[] lb] w fun e w' => e = .returned (.tuple #[.int .i64 r.1, .int .i64 r.2]) ∧ Below w.heap.size w w' := by
 have HP := Aside0.mk hp
 have HF := Aside0.mk hf
 have HN := Aside0.mk hname
 have HBD := Aside0.mk hb
 have H' := Aside0.mk h
 have HB := Aside0.mk (Below.refl w.heap.size w)
 clear hp hf hname hb h
 go_enter Tryz.func40, Tryz.ntmps40
 go_wp2
 go_loopg [0, 6] k (fun kq v0 v6 w' => ∃ n t : Int, v0 = .int .i64 n ∧ v6 = .int .i64 t ∧ Aside0 (impl_untilOne.go f kq n t = some r) ∧ Aside0 (Below w.heap.size w w'))
 case atStart => exact ⟨n, 0, rfl, rfl, H', HB⟩
 case round =>
  clear H' HB
  obtain ⟨n, t, rfl, rfl, HA, HB⟩ := hrel
  have h := HA.out
  clear HA
  cases gk with
  | zero => simp [impl_untilOne.go] at h
  | succ c =>
   unfold impl_untilOne.go at h
   by_cases cc : n > 9
   · rw [if_pos cc] at h
     have c1 : decide (9 < n) = true := decide_eq_true cc
     clear cc
     obtain ⟨m, hm, h⟩ := Option.bind_eq_some_iff.mp h
     have HT := Aside0.mk hm
     have HA2 := Aside0.mk h
     clear h hm
     go_wp2_with (first | ((with_reducible refine gate_dst (N := 11) rfl ?_); refine Fn.goesF_ (some 11) rfl rfl HF.out HN.out HBD.out #[.int .i64 n] rfl (by rfl) (by (try simp only [List.map_toArray, List.map_cons, List.map_nil]); rfl) ?_; (with_reducible refine (HP.out n m _ HT.out HB.out).mono ?_); rintro e w11 ⟨rfl, hb⟩; refine ⟨_, rfl, ?_⟩; have HB2 := Aside0.mk (below_step HB.out hb); clear hb))
     go_roundg c
     case measure => omega
     case rel => exact ⟨m, wrap64 (t + 1), rfl, rfl, HA2, HB2⟩
   rw [if_neg cc] at h
   have c1 : decide (9 < n) = false := decide_eq_false cc
   have hr : (n, t) = r := Option.some.inj h
   subst hr
   clear cc h
   go_wp2
   first | go_ret2 | go_ret3 | go_ret
   exact ⟨rfl, HB.out⟩

/-! ### impl_DigitRoot: function 10 -/
-- behind 40 32 38
def impl_DigitRoot.f (k : Nat) (a0 : Int) : Option (Int × Int × Bool) := (impl_isWritten.f a0).bind fun t => (if t = true then ((impl_untilOne.go (fun x => impl_digitSum.f k x) k a0 0).bind fun r => some (r.1, r.2, true)) else some (0, 0, false))
theorem impl_DigitRoot.mono : ∀ a0 k, LeO (impl_DigitRoot.f k a0) (impl_DigitRoot.f (k + 1) a0) := by
 intro a0 k
 unfold impl_DigitRoot.f
 exact LeO.bind (LeO.refl _) (fun _ => LeO.ite (LeO.bind (impl_untilOne.go_mono (fun x => impl_digitSum.mono _ _) _ _ _) (fun _ => LeO.refl _)) (LeO.refl _))
set_option maxHeartbeats 8000000 in
set_option maxRecDepth 100000 in
theorem impl_DigitRoot.calls (k : Nat) (a0 : Int) (r1 : Int) (r2 : Int) (r3 : Bool) (w : World) (hT : Shelf.TabOk w) (h : impl_DigitRoot.f k a0 = some (r1, r2, r3)) :
 Calls Tryz.prog 10 #[.int .i64 a0] w fun e w' => e = .returned (.tuple #[.int .i64 r1, .int .i64 r2, .bool r3]) ∧ Below w.heap.size w w' := by
 have HT := Aside0.mk hT
 clear hT
 have HB := Aside0.mk (Below.refl w.heap.size w)
 unfold impl_DigitRoot.f at h
 obtain ⟨t, ht, h⟩ := Option.bind_eq_some_iff.mp h
 have A1 := Aside0.mk ht
 clear ht
 cases t with
 | false =>
  rw [if_neg (by decide)] at h
  simp only [Option.some.injEq, Prod.mk.injEq] at h
  obtain ⟨rfl, rfl, rfl⟩ := h
  go_enter Tryz.func10, Tryz.ntmps10
  go_wp2_with (first | (go_at_call 38; (with_reducible refine (impl_isWritten.calls a0 false _ A1.out).mono ?_); rintro e w' ⟨rfl, ⟨nd, rfl⟩⟩))
  first | go_ret3 | go_ret2 | go_ret
  exact ⟨rfl, by repeat (first | exact Below.refl _ _ | apply pw_below_drewN | apply below_drew1)⟩
 | true =>
  rw [if_pos rfl] at h
  obtain ⟨z, hz, h⟩ := Option.bind_eq_some_iff.mp h
  simp only [Option.some.injEq, Prod.mk.injEq] at h
  obtain ⟨rfl, rfl, rfl⟩ := h
  have A2 := Aside0.mk hz
  clear hz
  go_enter Tryz.func10, Tryz.ntmps10
  go_wp2_with (first | (go_at_call 38; (with_reducible refine (impl_isWritten.calls a0 true _ A1.out).mono ?_); rintro e w' ⟨rfl, ⟨nd, rfl⟩⟩; have HB1 := Aside0.mk (pw_below_drewN (Below.refl w.heap.size w) nd : Below w.heap.size w (w.drewN nd)); generalize w.drewN nd = w1 at HB1 ⊢) | (go_at_call 40; (refine (impl_untilOne.calls (fun x => impl_digitSum.f k x) k 32 _ #[] a0 z _ Tryz.func32 (by kernel_rfl) rfl (fun x t W hx hB => impl_digitSum.calls k x t W (Shelf.TabOk.below (Shelf.TabOk.below HT.out HB1.out) (by first | exact hB | exact (Below.trans (by repeat (first | exact Below.refl _ _ | apply pw_below_drewN | apply below_drew1)) hB))) hx) A2.out).mono ?_); rintro e w2 ⟨rfl, hb⟩; have HB2 := Aside0.mk (below_step HB1.out (by first | exact hb | exact below_step (by repeat (first | exact Below.refl _ _ | apply pw_below_drewN | apply below_drew1)) hb)); clear hb))
  first | go_ret3 | go_ret2 | go_ret
  exact ⟨rfl, HB2.out⟩

end Go.Proofs.YtjpbadckmackbaaGreatDoor.PFnDigitsSummed

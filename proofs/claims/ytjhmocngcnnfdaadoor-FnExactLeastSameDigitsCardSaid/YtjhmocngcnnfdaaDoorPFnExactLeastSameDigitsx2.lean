-- Laid by this session's program gprint.py over the kit's print.
import Derived.Test.YtjhmocngcnnfdaaDoorPFnExactLeastSameDigitsx0
import Derived.Test.YtjhmocngcnnfdaaDoorPFnExactLeastSameDigitsx1
namespace Go.Proofs.YtjhmocngcnnfdaaDoor.PFnExactLeastSameDigits
open Go.RowKit Go.Proofs.YtjhmocngcnnfdaaDoorW.PrintWords Go.Proofs.YtjhmocngcnnfdaaDoorW.PrintLast Go.Proofs.YtjhmocngcnnfdaaDoorW.PrintMore
attribute [local go_sem] max2_int min2_int max_two min_two max_three min_three max_four min_four   -- for this text's walks alone
set_option linter.unusedVariables false
set_option linter.unusedSimpArgs false

/-! ### impl_LeastSameDigits: function 52 -/
-- behind 68 89 104
def impl_LeastSameDigits.idx : List Int → Int → Int
 | [], _ => -1
 | x :: l, i => if x = 48 then impl_LeastSameDigits.idx l (i + 1) else i
def impl_LeastSameDigits.swap (l : List Int) : List Int := if 0 < impl_LeastSameDigits.idx l 0 then (l.set 0 (rd l (impl_LeastSameDigits.idx l 0))).set (impl_LeastSameDigits.idx l 0).toNat (rd l 0) else l
def impl_LeastSameDigits.f (k : Nat) (a0 : Int) : Option (Int × Bool) := (impl_isLeast.f a0).bind fun t => if t = true then (strconv_Itoa.f a0).bind fun s => (if s.size ≤ 64 then (impl_numberOf.f k (strOfNums (impl_LeastSameDigits.swap (SortB.sorted (bytesOf s))))).bind fun r => some (r, true) else none) else some (0, false)
theorem impl_LeastSameDigits.mono : ∀ a0 k, LeO (impl_LeastSameDigits.f k a0) (impl_LeastSameDigits.f (k + 1) a0) := by
 intro a0 k
 unfold impl_LeastSameDigits.f
 exact LeO.bind (LeO.refl _) (fun _ => LeO.ite (LeO.bind (LeO.refl _) (fun _ => LeO.ite (LeO.bind (impl_numberOf.mono _ _) (fun _ => LeO.refl _)) (LeO.refl _))) (LeO.refl _))
theorem impl_LeastSameDigits.idx_lt : ∀ (l : List Int) (i : Int), 0 ≤ i → impl_LeastSameDigits.idx l i = -1 ∨ (i ≤ impl_LeastSameDigits.idx l i ∧ impl_LeastSameDigits.idx l i < i + l.length)
 | [], _, _ => Or.inl rfl
 | x :: l, i, h => by
  unfold impl_LeastSameDigits.idx
  split
  · rcases impl_LeastSameDigits.idx_lt l (i + 1) (by omega) with e | ⟨e1, e2⟩
    · exact Or.inl e
    exact Or.inr ⟨by omega, by simp only [List.length_cons]; omega⟩
  exact Or.inr ⟨Int.le_refl _, by simp only [List.length_cons]; omega⟩
theorem impl_LeastSameDigits.idx_drop (l : List Int) (j : Nat) (hj : j < l.length) : impl_LeastSameDigits.idx (l.drop j) (j : Int) = if rd l (j : Int) = 48 then impl_LeastSameDigits.idx (l.drop (j + 1)) ((j + 1 : Nat) : Int) else (j : Int) := by
 rw [List.drop_eq_getElem_cons hj]
 have e : rd l (j : Int) = l[j] := by unfold rd; rw [Int.toNat_natCast, List.getD_eq_getElem?_getD, List.getElem?_eq_getElem hj]; rfl
 rw [e]
 rfl
theorem impl_LeastSameDigits.succv_ (n : Nat) (h : n < 9223372036854775807) : Value.int .i64 (wrap64 ((n : Int) + 1)) = Value.int .i64 ((n + 1 : Nat) : Int) := by
 have : wrap64 ((n : Int) + 1) = ((n + 1 : Nat) : Int) := by simp [wrap64]; omega
 rw [this]
set_option maxHeartbeats 8000000 in
set_option maxRecDepth 100000 in
theorem impl_LeastSameDigits_1.calls (x : Int) (w : World) :
 Calls Tryd.prog 107 #[.int .u8 x] w fun e w' => e = .returned (.bool (x != 48)) ∧ w' = w := by
 go_enter Tryd.func107, Tryd.ntmps107
 go_wp2
 go_ret
 exact ⟨rfl, rfl⟩
set_option maxHeartbeats 8000000 in
set_option maxRecDepth 100000 in
theorem impl_LeastSameDigits.index (A : Option Addr) (n c : Nat) (xs : List Int) (w : World) (hn : n = xs.length) (hr : Kd.C (Kd.int .u8) w A n xs) (hm : xs.length ≤ 1000000) :
 Calls Tryd.prog 106 #[.slice A n c, .func (.func 107) #[] #[]] w fun e w' => e = .returned (.int .i64 (impl_LeastSameDigits.idx xs 0)) ∧ w' = w := by
 have HR := Aside0.mk hr
 have HM := Aside0.mk hm
 have HN := Aside0.mk hn
 have HA := Aside0.mk (show impl_LeastSameDigits.idx (xs.drop 0) ((0 : Nat) : Int) = impl_LeastSameDigits.idx xs 0 from rfl)
 clear hr hm hn
 go_enter Tryd.func106, Tryd.ntmps106
 go_wp2
 go_loopg [8] (xs.length + 1) (fun kq v8 w' => ∃ j : Nat, v8 = .int .i64 (j : Int) ∧ Aside0 (j + kq = xs.length + 1) ∧ Aside0 (impl_LeastSameDigits.idx (xs.drop j) (j : Int) = impl_LeastSameDigits.idx xs 0) ∧ w' = w)
 case atStart => exact ⟨0, rfl, ⟨by omega⟩, HA, rfl⟩
 case round =>
  clear HA
  obtain ⟨j, rfl, HJ, HA, rfl⟩ := hrel
  by_cases d : j < xs.length
  · obtain ⟨ad, e1, hx⟩ := Kd.at_int HR.out (j : Int) (by omega) (by have := HN.out; omega)
    cases e1
    simp only [Int.toNat_natCast] at hx
    have c1 : decide ((j : Int) < (n : Int)) = true := decide_eq_true (by have := HN.out; omega)
    have c2 : decide (j < n) = true := decide_eq_true (by have := HN.out; omega)
    have p1 : (0 ≤ (j : Int)) = True := eq_true (by omega)
    have q1 : ((j : Int) < (n : Int)) = True := eq_true (by have := HN.out; omega)
    have hi := impl_LeastSameDigits.idx_drop xs j d
    rw [HA.out] at hi
    have HD := Aside0.mk d
    clear d HA
    by_cases q : rd xs (j : Int) = 48
    · rw [if_pos q] at hi
      have HI := Aside0.mk hi
      have b1 : (rd xs (j : Int) != 48) = false := bne_eq_false_iff_eq.mpr q
      clear q hi
      go_wp2_with (first | (go_at_call 107; (with_reducible refine (impl_LeastSameDigits_1.calls _ _).mono ?_); rintro e w' ⟨rfl, rfl⟩))
      go_roundg (gk - 1)
      case measure => have := HJ.out; have := HD.out; omega
      case rel => exact ⟨j + 1, impl_LeastSameDigits.succv_ j (by have := HD.out; have := HM.out; omega), ⟨by have := HJ.out; have := HD.out; omega⟩, ⟨HI.out.symm⟩, rfl⟩
    rw [if_neg q] at hi
    have b1 : (rd xs (j : Int) != 48) = true := bne_iff_ne.mpr q
    have HI := Aside0.mk hi
    clear q hi
    go_wp2_with (first | (go_at_call 107; (with_reducible refine (impl_LeastSameDigits_1.calls _ _).mono ?_); rintro e w' ⟨rfl, rfl⟩))
    go_ret
    exact ⟨by rw [HI.out]; rfl, rfl⟩
  have c1 : decide ((j : Int) < (n : Int)) = false := decide_eq_false (by have := HN.out; omega)
  have c2 : decide (j < n) = false := decide_eq_false (by have := HN.out; omega)
  have hi : -1 = impl_LeastSameDigits.idx xs 0 := by
   have h := HA.out
   rw [List.drop_eq_nil_of_le (by omega)] at h
   exact h
  have HI := Aside0.mk hi
  clear hi
  go_wp2
  go_ret
  exact ⟨by rw [← HI.out]; rfl, rfl⟩
set_option maxHeartbeats 8000000 in
set_option maxRecDepth 100000 in
open Bytes in
theorem impl_LeastSameDigits.calls (k : Nat) (a0 : Int) (r1 : Int) (r2 : Bool) (w : World) (hT : Shelf.TabOk w) (h : impl_LeastSameDigits.f k a0 = some (r1, r2)) :
 Calls Tryd.prog 52 #[.int .i64 a0] w fun e w' => e = .returned (.tuple #[.int .i64 r1, .bool r2]) ∧ Below w.heap.size w w' := by
 have HT := Aside0.mk hT
 unfold impl_LeastSameDigits.f at h
 obtain ⟨t, ht, h⟩ := Option.bind_eq_some_iff.mp h
 have A1 := Aside0.mk ht
 clear hT ht
 cases t with
 | false =>
  rw [if_neg (by decide)] at h
  simp only [Option.some.injEq, Prod.mk.injEq] at h
  obtain ⟨rfl, rfl⟩ := h
  go_enter Tryd.func52, Tryd.ntmps52
  go_wp2_with (first | (go_at_call 68; (with_reducible refine (impl_isLeast.calls a0 false _ A1.out).mono ?_); rintro e w' ⟨rfl, ⟨nd, rfl⟩⟩))
  go_ret2
  exact ⟨rfl, by repeat (first | exact Below.refl _ _ | apply pw_below_drewN | apply below_drew1)⟩
 | true =>
  rw [if_pos rfl] at h
  obtain ⟨s, hs, h⟩ := Option.bind_eq_some_iff.mp h
  by_cases hz : s.size ≤ 64
  rotate_left
  · exact none_ (if_neg hz) h
  rw [if_pos hz] at h
  obtain ⟨q, hq, h⟩ := Option.bind_eq_some_iff.mp h
  simp only [Option.some.injEq, Prod.mk.injEq] at h
  obtain ⟨rfl, rfl⟩ := h
  have hbl : (bytesOf s).length = s.size := (bytes_reads w 5 s (by omega)).1
  obtain ⟨ys, hys⟩ : ∃ ys, ys = SortB.sorted (bytesOf s) := ⟨_, rfl⟩
  have hyl : ys.length = s.size := by rw [hys, SortB.sorted_length, hbl]
  rw [← hys] at hq
  obtain ⟨ix, hix⟩ : ∃ ix, ix = impl_LeastSameDigits.idx ys 0 := ⟨_, rfl⟩
  have hlt := impl_LeastSameDigits.idx_lt ys 0 (Int.le_refl 0)
  rw [← hix] at hlt
  have hsw : impl_LeastSameDigits.swap ys = if 0 < ix then (ys.set 0 (rd ys ix)).set ix.toNat (rd ys 0) else ys := by rw [hix]; rfl
  rw [hsw] at hq
  have HIX := Aside0.mk hix
  have HLT := Aside0.mk hlt
  have HS := Aside0.mk hs
  have HZ := Aside0.mk hz
  have HBL := Aside0.mk hbl
  have HYS := Aside0.mk hys
  have HYL := Aside0.mk hyl
  clear hs hz hbl hys hyl hix hlt hsw
  by_cases c : 0 < ix
  · rw [if_pos c] at hq
    have HQ := Aside0.mk hq
    have c1 : decide (0 < ix) = true := decide_eq_true c
    have c2 : decide (ix > 0) = true := decide_eq_true c
    have HC := Aside0.mk c
    clear hq c
    go_enter Tryd.func52, Tryd.ntmps52
    go_wp2_with (first | (go_at_call 68; (with_reducible refine (impl_isLeast.calls a0 true _ A1.out).mono ?_); rintro e w' ⟨rfl, ⟨nd, rfl⟩⟩) | (go_at_call 89; (with_reducible refine (strconv_Itoa.calls a0 s _ (Shelf.TabOk.below HT.out (by repeat (first | exact Below.refl _ _ | apply pw_below_drewN | apply below_drew1))) HS.out).mono ?_); rintro e w6 ⟨rfl, hb⟩; have HB6 := Aside0.mk (below_step (by repeat (first | exact Below.refl _ _ | apply pw_below_drewN | apply below_drew1) : Below w.heap.size w _) hb); clear hb; have hcv := Lib.run_convert_string_bytes (P := Tryd.prog) w6 9 50 5 s (u := .string) Tryd.underlying9 Tryd.underlying50 Tryd.underlying5; have hgr := grown_le w6 s.size 5 (by have := HZ.out; omega); have hm := MR_conv w6 5 s (by have := HZ.out; omega) w6.heap.size (Nat.le_refl _) hgr.2 hgr.1; have HBV := Aside0.mk (bytes_below (Below.refl w6.heap.size w6) (Nat.le_refl _) 5 s); generalize Lib.bytesWorld w6 5 s = w7 at hm HBV hcv; generalize grownCap w6 s.size 0 5 = cap at hm hcv; have HM := Aside0.mk hm; clear hm hgr) | (go_at_call 102; (with_reducible refine (SortB.Sort_MR HBV.out HM.out (by have := HBL.out; have := HZ.out; omega)).mono ?_); rintro e w8 ⟨rfl, ho, hb⟩; rw [← HYS.out] at ho; clear HM HBV hcv; have HM := Aside0.mk ho; have HBV := Aside0.mk hb; clear ho hb) | (go_at_call 106; (with_reducible refine (impl_LeastSameDigits.index (some ⟨w6.heap.size, 0, none⟩) s.size cap ys _ HYL.out.symm (by have h := (MR_reads' HM.out).2.2; rw [HYL.out] at h; exact h) (by have := HYL.out; have := HZ.out; omega)).mono ?_); rintro e w' ⟨rfl, rfl⟩; rw [← HIX.out]))
    have hb : 0 ≤ ix ∧ ix < (s.size : Int) := by
     have h1 := HC.out; have h2 := HYL.out
     rcases HLT.out with e | ⟨_, e⟩
     · omega
     omega
    have hc0 := MR_celln 0 HM.out 0 (Int.le_refl 0) (by omega)
    have hci := MR_celln 0 HM.out ix hb.1 hb.2
    obtain ⟨hx0, hf0⟩ := hc0
    obtain ⟨hxi, hfi⟩ := hci
    have p0 : (0 ≤ ix) = True := eq_true hb.1
    have q0 : (ix < (s.size : Int)) = True := eq_true hb.2
    have p1 : (0 < (s.size : Int)) = True := eq_true (by omega)
    have p2 : (0 < s.size) = True := eq_true (by omega)
    simp only [Int.toNat_zero] at hx0 hf0
    have hm2 := (MR_putg HM.out 0 (rd ys ix)).1
    obtain ⟨hx2, hf2⟩ := MR_celln 0 hm2 ix hb.1 hb.2
    have hm3 := MR_drew (MR_putg hm2 ix (rd ys 0)).1
    have hb2 := HBV.out.setCell (p := ⟨w6.heap.size, 0, none⟩) (Nat.le_refl _) (.int .u8 (rd ys ix))
    have hb3 := hb2.setCell (p := ⟨w6.heap.size, ix.toNat, none⟩) (Nat.le_refl _) (.int .u8 (rd ys 0))
    have hb4 := below_drew1 hb3
    simp only [Int.toNat_zero] at hx2 hf2 hm3
    have HBW := Aside0.mk hb4
    have HBS := Aside0.mk hb3
    have HM3 := Aside0.mk hm3
    clear hb hm2 hm3 hb2 hb3 hb4
    obtain ⟨zs, hzs⟩ : ∃ zs, (ys.set 0 (rd ys ix)).set ix.toNat (rd ys 0) = zs := ⟨_, rfl⟩
    have hzl : zs.length = s.size := by rw [← hzs, List.length_set, List.length_set, HYL.out]
    rw [hzs] at HM3 HQ
    have hC := (MR_reads' HM3.out).2.2
    rw [hzl] at hC
    have hcv := Kd.C_string (P := Tryd.prog) (src := 50) (dst := 9) (e := 5) (c := cap) Tryd.underlying50 Tryd.underlying5 Tryd.underlying9 hC
    clear hC hzs hzl HM3
    go_region
    go_wp2_with (first | (go_at_call 104; (with_reducible refine (impl_numberOf.calls k _ q _ HQ.out).mono ?_); rintro e w' ⟨rfl, ⟨nd, rfl⟩⟩))
    go_ret2
    exact ⟨rfl, by repeat (first | exact below_step HB6.out HBW.out | exact below_step HB6.out HBS.out | apply pw_below_drewN | apply below_drew1)⟩
  rw [if_neg c] at hq
  have HQ := Aside0.mk hq
  have c1 : decide (0 < ix) = false := decide_eq_false c
  have c2 : decide (ix > 0) = false := decide_eq_false c
  clear hq c
  go_enter Tryd.func52, Tryd.ntmps52
  go_wp2_with (first | (go_at_call 68; (with_reducible refine (impl_isLeast.calls a0 true _ A1.out).mono ?_); rintro e w' ⟨rfl, ⟨nd, rfl⟩⟩) | (go_at_call 89; (with_reducible refine (strconv_Itoa.calls a0 s _ (Shelf.TabOk.below HT.out (by repeat (first | exact Below.refl _ _ | apply pw_below_drewN | apply below_drew1))) HS.out).mono ?_); rintro e w6 ⟨rfl, hb⟩; have HB6 := Aside0.mk (below_step (by repeat (first | exact Below.refl _ _ | apply pw_below_drewN | apply below_drew1) : Below w.heap.size w _) hb); clear hb; have hcv := Lib.run_convert_string_bytes (P := Tryd.prog) w6 9 50 5 s (u := .string) Tryd.underlying9 Tryd.underlying50 Tryd.underlying5; have hgr := grown_le w6 s.size 5 (by have := HZ.out; omega); have hm := MR_conv w6 5 s (by have := HZ.out; omega) w6.heap.size (Nat.le_refl _) hgr.2 hgr.1; have HBV := Aside0.mk (bytes_below (Below.refl w6.heap.size w6) (Nat.le_refl _) 5 s); generalize Lib.bytesWorld w6 5 s = w7 at hm HBV hcv; generalize grownCap w6 s.size 0 5 = cap at hm hcv; have HM := Aside0.mk hm; clear hm hgr) | (go_at_call 102; (with_reducible refine (SortB.Sort_MR HBV.out HM.out (by have := HBL.out; have := HZ.out; omega)).mono ?_); rintro e w8 ⟨rfl, ho, hb⟩; rw [← HYS.out] at ho; clear HM HBV hcv; have HM := Aside0.mk ho; have HBV := Aside0.mk hb; clear ho hb; have hC := (MR_reads' HM.out).2.2; rw [HYL.out] at hC; have hcv := Kd.C_string (P := Tryd.prog) (src := 50) (dst := 9) (e := 5) (c := cap) Tryd.underlying50 Tryd.underlying5 Tryd.underlying9 hC; clear hC) | (go_at_call 106; (with_reducible refine (impl_LeastSameDigits.index (some ⟨w6.heap.size, 0, none⟩) s.size cap ys _ HYL.out.symm (by have h := (MR_reads' HM.out).2.2; rw [HYL.out] at h; exact h) (by have := HYL.out; have := HZ.out; omega)).mono ?_); rintro e w' ⟨rfl, rfl⟩; rw [← HIX.out]) | (go_at_call 104; (with_reducible refine (impl_numberOf.calls k _ q _ HQ.out).mono ?_); rintro e w' ⟨rfl, ⟨nd, rfl⟩⟩))
  go_ret2
  exact ⟨rfl, by repeat (first | exact below_step HB6.out HBV.out | apply pw_below_drewN | apply below_drew1)⟩

/-! ### laws_FnExactLeastSameDigits: function 9 -/
def laws_FnExactLeastSameDigits.f (k : Nat) (a0 : Int) : Option (Bool) := (spec_LeastSameDigits.f k a0).bind fun bt135 => ((impl_LeastSameDigits.f k a0).bind fun bt137 => (if bt137.1 = bt135.1 then (if (bt137.2 != bt135.2) = true then (some false) else (some true)) else (some false)))
set_option maxHeartbeats 8000000 in
set_option maxRecDepth 100000 in
theorem laws_FnExactLeastSameDigits.calls (k : Nat) (a0 : Int) (r : Bool) (w : World) (hT : Shelf.TabOk w) (hr_ : Aside0 (r = true)) (h : laws_FnExactLeastSameDigits.f k a0 = some r) :
 Calls Tryd.prog 9 #[.int .i64 a0] w fun e w' => e = .returned (.bool r) ∧ Below w.heap.size w w' := by
 have HT := Aside0.mk hT
 clear hT
 have HB := Aside0.mk (Below.refl w.heap.size w)
 have H : ((spec_LeastSameDigits.f k a0).bind fun bt135 => ((impl_LeastSameDigits.f k a0).bind fun bt137 => (if bt137.1 = bt135.1 then (if (bt137.2 != bt135.2) = true then (some false) else (some true)) else (some false)))) = some r := h
 clear h
 replace H := Option.bind_eq_some_iff.mp H
 obtain ⟨⟨t135, t136⟩, A20, H⟩ := H
 dsimp only at H
 have A2 := Aside0.mk A20
 clear A20
 replace H := Option.bind_eq_some_iff.mp H
 obtain ⟨⟨t137, t138⟩, A30, H⟩ := H
 dsimp only at H
 have A3 := Aside0.mk A30
 clear A30
 by_cases c4 : t137 = t135
 rotate_left
 · exact dead_ (if_neg c4) H hr_
 rw [if_pos c4] at H
 have c4b0 : (t137 == t135) = true := beq_iff_eq.mpr c4
 have c4b1 : (t137 != t135) = false := bne_eq_false_iff_eq.mpr c4
 clear c4
 by_cases c5 : (t138 != t136) = true
 · exact dead_ (if_pos c5) H hr_
 rw [if_neg c5] at H
 have c5b0 : (t138 != t136) = false := by simpa using c5
 (try (have c5b1 : decide (t138 = t136) = true := by simpa using c5))
 (try (have c5b2 : (t138 == t136) = true := by simpa using c5))
 clear c5
 obtain rfl := Option.some.inj H
 go_enter Tryd.func9, Tryd.ntmps9
 go_wp2_with (first | ((with_reducible refine gate_callee (f := 51) rfl ?_); refine goesL_ (some 9) rfl rfl Tryd.func51 (by kernel_rfl) rfl #[.int .i64 a0] rfl (by (try simp only [List.map_toArray, List.map_cons, List.map_nil]); first | done | rfl | (simp only [List.length_drop, List.length_take]; rfl)) ?_; (with_reducible refine (spec_LeastSameDigits.calls k a0 t135 t136 _ A2.out).mono ?_); rintro e w6 ⟨rfl, hb⟩; refine ⟨_, rfl, ?_⟩; have n0_ := Aside0.mk (below_step (by repeat (first | (with_reducible first | exact HB.out | apply below_alloc | apply pw_below_drewN | apply below_drew1) | exact HB.out)) hb); clear HB; have HB := n0_; clear n0_; (try clear hb); (try clear hb2); (try clear hk); (try clear hi)) | ((with_reducible refine gate_callee (f := 52) rfl ?_); refine goesL_ (some 14) rfl rfl Tryd.func52 (by kernel_rfl) rfl #[.int .i64 a0] rfl (by (try simp only [List.map_toArray, List.map_cons, List.map_nil]); first | done | rfl | (simp only [List.length_drop, List.length_take]; rfl)) ?_; (with_reducible refine (impl_LeastSameDigits.calls k a0 t137 t138 _ ?side1 A3.out).mono ?_); (case side1 => exact Shelf.TabOk.below HT.out (by repeat (first | (with_reducible first | exact HB.out | apply below_alloc | apply pw_below_drewN | apply below_drew1) | exact HB.out))); rintro e w7 ⟨rfl, hb⟩; refine ⟨_, rfl, ?_⟩; have n0_ := Aside0.mk (below_step (by repeat (first | (with_reducible first | exact HB.out | apply below_alloc | apply pw_below_drewN | apply below_drew1) | exact HB.out)) hb); clear HB; have HB := n0_; clear n0_; (try clear hb); (try clear hb2); (try clear hk); (try clear hi)))
 go_ret
 exact ⟨by first | rfl | (simp [errW_none, errW_some] <;> rfl) | (simp [*, errW_none, errW_some] <;> rfl), by repeat (first | (with_reducible first | exact HB.out | apply below_alloc | apply pw_below_drewN | apply below_drew1) | exact HB.out)⟩

/-- THE ONE PURE STATEMENT of laws_FnExactLeastSameDigits: yours. -/
def laws_FnExactLeastSameDigits.Pure : Prop := ∀ (a0 : Int), (Lit.int .i64 a0).wf = true → ∃ k, laws_FnExactLeastSameDigits.f k a0 = some true
theorem laws_FnExactLeastSameDigits.walk (P : laws_FnExactLeastSameDigits.Pure) (a0 : Int) (w : World) (hT : Shelf.TabOk w) (w0 : (Lit.int .i64 a0).wf = true) :
 Calls Tryd.prog 9 #[.int .i64 a0] w fun e w' => e = .returned (.bool true) ∧ Below w.heap.size w w' := by
 obtain ⟨k, h⟩ := P a0 w0
 refine (laws_FnExactLeastSameDigits.calls k a0 true w hT (Aside0.mk rfl) h).mono ?_
 rintro e w' ⟨rfl, hd⟩
 exact ⟨rfl, hd⟩

end Go.Proofs.YtjhmocngcnnfdaaDoor.PFnExactLeastSameDigits

-- Laid by this session's program gprint.py over the kit's print.
import Derived.Test.YtjnfaidngaobmaaGreatDoorZip
import Derived.Test.YtjnfaidngaobmaaGreatDoorPFnLeastOfDigitsx0
import Derived.Test.YtjnfaidngaobmaaGreatDoorPFnLeastOfDigitsx1
namespace Go.Proofs.YtjnfaidngaobmaaGreatDoor.PFnLeastOfDigits
open Go.RowKit Go.Proofs.YtjnfaidngaobmaaGreatDoorW.PrintWords Go.Proofs.YtjnfaidngaobmaaGreatDoorW.PrintLast Go.Proofs.YtjnfaidngaobmaaGreatDoorW.PrintMore
attribute [local go_sem] max2_int min2_int max_two min_two max_three min_three max_four min_four   -- for this text's walks alone
set_option linter.unusedVariables false
set_option linter.unusedSimpArgs false
theorem z2_1_ {p : Prop} (h : p := by (try simp only [List.map_toArray, List.map_cons, List.map_nil]); first | done | rfl | (simp only [List.length_drop, List.length_take]; rfl)) : p := h

/-! ### impl_step: function 35 -/
-- behind 46
def impl_step.bef (d : Bool) (a b : Int) : Bool := if a = b then false else (decide (a < b)) != d
def impl_step.up (d : Bool) (ys : List Int) : Nat → Int
 | 0 => -1
 | m + 1 => if impl_step.bef d (rd ys (m : Int)) (rd ys ((m : Int) + 1)) = true then (m : Int) else impl_step.up d ys m
def impl_step.dn (d : Bool) (ys : List Int) (x : Int) : Nat → Option Nat
 | 0 => none
 | m + 1 => if impl_step.bef d x (rd ys (m : Int)) = true then some m else impl_step.dn d ys x m
def impl_step.swap (ys : List Int) (i j : Nat) : List Int := (ys.set i (rd ys (j : Int))).set j (rd ys (i : Int))
def impl_step.f (a0 : ByteArray) (a1 : Bool) : Option (ByteArray × Bool) := if a0.size ≤ 1048576 then (if impl_step.up a1 (bytesOf a0) (a0.size - 1) < 0 then some (⟨#[]⟩, false) else (impl_step.dn a1 (bytesOf a0) (rd (bytesOf a0) (impl_step.up a1 (bytesOf a0) (a0.size - 1))) a0.size).bind fun j => some (strOfNums ((impl_step.swap (bytesOf a0) (impl_step.up a1 (bytesOf a0) (a0.size - 1)).toNat j).take ((impl_step.up a1 (bytesOf a0) (a0.size - 1)).toNat + 1) ++ ((impl_step.swap (bytesOf a0) (impl_step.up a1 (bytesOf a0) (a0.size - 1)).toNat j).drop ((impl_step.up a1 (bytesOf a0) (a0.size - 1)).toNat + 1)).reverse), true)) else none
theorem impl_step.up_lt (d : Bool) (ys : List Int) : ∀ m, impl_step.up d ys m < (m : Int)
 | 0 => by unfold impl_step.up; omega
 | m + 1 => by
  unfold impl_step.up
  split
  · omega
  have := impl_step.up_lt d ys m; omega
theorem impl_step.dn_lt (d : Bool) (ys : List Int) (x : Int) : ∀ m j, impl_step.dn d ys x m = some j → j < m
 | 0, j, h => by simp [impl_step.dn] at h
 | m + 1, j, h => by
  unfold impl_step.dn at h
  split at h
  · have := Option.some.inj h; omega
  have := impl_step.dn_lt d ys x m j h; omega
set_option maxHeartbeats 8000000 in
set_option maxRecDepth 100000 in
theorem impl_step.cl (d : Bool) (a b : Int) (g : Nat) (w : World) (hb : w.heap[g]? = some (.cells #[.bool d] 4 (0, 0))) :
 Calls Tryz.prog 68 #[.int .u8 a, .int .u8 b, .pointer (some ⟨g, 0, none⟩)] w fun e w' => e = .returned (.bool (impl_step.bef d a b)) ∧ ∃ nd, w' = w.drewN nd := by
 have hc : w.cell? ⟨g, 0, none⟩ = some (.bool d) := (blk_cell hb 0).trans rfl
 have hf := blk_frozen hb 0
 by_cases c : a = b
 · subst c
   have e : impl_step.bef d a a = false := if_pos rfl
   rw [e]
   go_enter Tryz.func68, Tryz.ntmps68
   go_wp2
   go_ret
   exact ⟨by first | rfl | simp, ⟨_, by first | rfl | exact (World.drewN_zero _).symm⟩⟩
 have e : impl_step.bef d a b = ((decide (a < b)) != d) := if_neg c
 have c1 : (a == b) = false := beq_eq_false_iff_ne.mpr c
 have c2 : (a != b) = true := bne_iff_ne.mpr c
 rw [e]
 clear e
 go_enter Tryz.func68, Tryz.ntmps68
 go_wp2
 go_ret
 exact ⟨by first | rfl | simp, ⟨_, by first | rfl | exact (World.drewN_zero _).symm⟩⟩
set_option maxHeartbeats 16000000 in
set_option maxRecDepth 100000 in
open Bytes in
theorem impl_step.calls (a0 : ByteArray) (a1 : Bool) (r1 : ByteArray) (r2 : Bool) (w : World) (h : impl_step.f a0 a1 = some (r1, r2)) :
 Calls Tryz.prog 35 #[.string a0, .bool a1] w fun e w' => e = .returned (.tuple #[.string r1, .bool r2]) ∧ Below w.heap.size w w' := by
 unfold impl_step.f at h
 by_cases hz : a0.size ≤ 1048576
 rotate_left
 · exact none_ (if_neg hz) h
 rw [if_pos hz] at h
 have hbl : (bytesOf a0).length = a0.size := (bytes_reads w 5 a0 (by omega)).1
 obtain ⟨ys, hys⟩ : ∃ ys, ys = bytesOf a0 := ⟨_, rfl⟩
 rw [← hys] at h hbl
 obtain ⟨I, hI⟩ : ∃ I, I = impl_step.up a1 ys (a0.size - 1) := ⟨_, rfl⟩
 rw [← hI] at h
 have HZ := Aside0.mk hz
 have HBL := Aside0.mk hbl
 have HYS := Aside0.mk hys
 have HI := Aside0.mk hI
 have H := Aside0.mk h
 clear h hI hys hbl
 have hw2 : wrap64 ((a0.size : Int) - 2) = (a0.size : Int) - 2 := by unfold wrap64; omega
 have hw1 : wrap64 ((a0.size : Int) - 1) = (a0.size : Int) - 1 := by unfold wrap64; omega
 clear hz
 go_enter Tryz.func35, Tryz.ntmps35
 go_wp2_with (first | ((with_reducible refine gate_dst (N := 3) rfl ?_); refine box_event ?hg (N := 3) ?hd (cs := #[.bool a1]) (t := 4) ?hr ?_; (case hd => rfl); (case hg => rfl); (case hr => first | (go_simp; done) | (go_simp; rfl)); intro g3 hg w3 hbox hb; have GE := Aside0.mk (show w.heap.size ≤ g3 by rw [hg]; exact Nat.le_refl _); have HB3 := Aside0.mk (below_step (Below.refl w.heap.size w) hb); have hcv := Lib.run_convert_string_bytes (P := Tryz.prog) w3 9 22 5 a0 (u := .string) Tryz.underlying9 Tryz.underlying22 Tryz.underlying5; have hgr := grown_le w3 a0.size 5 (by have := HZ.out; omega); have hm := MR_conv w3 5 a0 (by have := HZ.out; omega) w3.heap.size (Nat.le_refl _) hgr.2 hgr.1; have HBV := Aside0.mk (bytes_below (Below.refl w3.heap.size w3) (Nat.le_refl _) 5 a0); have BX := Aside0.mk (blk_below hbox HBV.out); generalize Lib.bytesWorld w3 5 a0 = w7 at hm HBV BX hcv; generalize grownCap w3 a0.size 0 5 = cap at hm hcv; rw [← HYS.out] at hm; have HM := Aside0.mk hm; clear hm hgr hbox hg hb))
 go_loopg [8] a0.size (fun kq v8 w' => ∃ i : Int, v8 = .int .i64 i ∧ Aside0 ((i < 0 ∧ I < 0) ∨ ∃ m : Nat, i = (m : Int) ∧ m + 1 < a0.size ∧ impl_step.up a1 ys (m + 1) = I ∧ m < kq) ∧ Aside0 (MR 5 w' w3.heap.size (fun _ => True) (.slice (some ⟨w3.heap.size, 0, none⟩) a0.size cap) ys) ∧ Aside0 (w'.heap[g3]? = some (.cells #[.bool a1] 4 (0, 0))) ∧ Aside0 (Below w3.heap.size w3 w'))
 case atStart =>
  refine ⟨(a0.size : Int) - 2, by first | rfl | rw [hw2], ⟨?_⟩, HM, BX, HBV⟩
  have hI := HI.out
  by_cases c : 2 ≤ a0.size
  · exact .inr ⟨a0.size - 2, by omega, by omega, by rw [show a0.size - 2 + 1 = a0.size - 1 by omega]; exact hI.symm, by omega⟩
  refine .inl ⟨by omega, ?_⟩
  have : a0.size - 1 = 0 := by omega
  rw [hI, this]
  unfold impl_step.up
  omega
 case round =>
  clear HM BX HBV
  obtain ⟨i, rfl, HJ, HM, BX, HBV⟩ := hrel
  rcases HJ.out with ⟨hi, hI0⟩ | ⟨m, rfl, hm1, hup, hmk⟩
  · have c1 : decide (0 ≤ i) = false := decide_eq_false (by omega)
    have c2 : decide (i < 0) = true := decide_eq_true hi
    have h := H.out
    rw [if_pos hI0] at h
    simp only [Option.some.injEq, Prod.mk.injEq] at h
    obtain ⟨rfl, rfl⟩ := h
    clear hi hI0 HJ
    go_wp2
    go_region
    go_wp2
    go_ret2
    exact ⟨rfl, below_step HB3.out (by repeat (first | exact HBV.out | apply below_drew1 | apply pw_below_drewN))⟩
  have c1 : decide (0 ≤ (m : Int)) = true := decide_eq_true (by omega)
  have hwm : wrap64 ((m : Int) + 1) = (m : Int) + 1 := by have := HZ.out; unfold wrap64; omega
  have hwi : IntKind.i64.wrap ((m : Int) + 1) = (m : Int) + 1 := (i64_w _).trans hwm
  obtain ⟨hx0, hf0⟩ := MR_celln 0 HM.out (m : Int) (by omega) (by omega)
  obtain ⟨hx1, hf1⟩ := MR_celln 0 HM.out ((m : Int) + 1) (by omega) (by omega)
  have p0 : (0 ≤ (m : Int)) = True := eq_true (by omega)
  have q0 : ((m : Int) < (a0.size : Int)) = True := eq_true (by omega)
  have p1 : (0 ≤ (m : Int) + 1) = True := eq_true (by omega)
  have q1 : ((m : Int) + 1 < (a0.size : Int)) = True := eq_true (by omega)
  have q2 : (m < a0.size) = True := eq_true (by omega)
  have q3 : (m + 1 < a0.size) = True := eq_true (by omega)
  have ht1 : ((m : Int) + 1).toNat = m + 1 := by omega
  simp only [Int.toNat_natCast, ht1] at hx0 hf0 hx1 hf1
  clear HJ
  have HUP := Aside0.mk hup
  have HM1 := Aside0.mk hm1
  have HMK := Aside0.mk hmk
  clear hup hm1 hmk
  obtain ⟨b, hb⟩ : ∃ b, b = impl_step.bef a1 (rd ys (m : Int)) (rd ys ((m : Int) + 1)) := ⟨_, rfl⟩
  have HBF := Aside0.mk hb
  clear hb
  go_wp2
  have hcl := fun (n : Nat) => impl_step.cl a1 (rd ys (m : Int)) (rd ys ((m : Int) + 1)) g3 (wr.drewN n) (blk_drewN BX.out n)
  rw [← HBF.out] at hcl
  go_quiet (first | (go_at_call 68; exact Calls.quiet_of (hcl _)))
  have hwd : wrap64 ((m : Int) - 1) = (m : Int) - 1 := by have := HZ.out; have := HM1.out; unfold wrap64; omega
  have HM := Aside0.mk (MR_drewN HM.out nq)
  have BX := Aside0.mk (blk_drewN BX.out nq)
  have HBV := Aside0.mk (pw_below_drewN HBV.out nq)
  generalize wr.drewN nq = wq at HM BX HBV ⊢
  clear hx0 hf0 hx1 hf1 hcl
  cases b with
  | false =>
   have hu : impl_step.up a1 ys m = I := by
    have h := HUP.out
    rw [impl_step.up, ← HBF.out] at h
    simpa using h
   have HU := Aside0.mk hu
   clear hu
   go_wp2
   go_roundg m
   case measure => exact HMK.out
   case rel =>
    refine ⟨(m : Int) - 1, by first | rfl | rw [hwd], ⟨?_⟩, HM, BX, HBV⟩
    have hu := HU.out; have h1 := HM1.out
    cases m with
    | zero => exact .inl ⟨by omega, by rw [← hu]; unfold impl_step.up; omega⟩
    | succ q => exact .inr ⟨q, by omega, by omega, hu, by omega⟩
  | true =>
   have hIm : I = (m : Int) := by
    have h := HUP.out
    rw [impl_step.up, ← HBF.out] at h
    simpa using h.symm
   have h := H.out
   rw [hIm, if_neg (by omega), Int.toNat_natCast] at h
   obtain ⟨J, hJ, h⟩ := Option.bind_eq_some_iff.mp h
   simp only [Option.some.injEq, Prod.mk.injEq] at h
   obtain ⟨rfl, rfl⟩ := h
   have hJlt := impl_step.dn_lt _ _ _ _ _ hJ
   have HJ2 := Aside0.mk hJ
   have HJL := Aside0.mk hJlt
   have c2 : decide ((m : Int) < 0) = false := decide_eq_false (by omega)
   clear hJ hJlt hIm HUP HBF
   go_wp2
   go_loopg [9] a0.size (fun kq v9 w' => ∃ q : Nat, v9 = .int .i64 (q : Int) ∧ Aside0 (q < a0.size ∧ impl_step.dn a1 ys (rd ys (m : Int)) (q + 1) = some J ∧ q < kq) ∧ Aside0 (MR 5 w' w3.heap.size (fun _ => True) (.slice (some ⟨w3.heap.size, 0, none⟩) a0.size cap) ys) ∧ Aside0 (w'.heap[g3]? = some (.cells #[.bool a1] 4 (0, 0))) ∧ Aside0 (Below w3.heap.size w3 w'))
   case atStart =>
    have h1 := HM1.out
    refine ⟨a0.size - 1, ?_, ⟨by omega, ?_, by omega⟩, HM, BX, HBV⟩
    · rw [hw1, show ((a0.size - 1 : Nat) : Int) = (a0.size : Int) - 1 by omega]
    rw [show a0.size - 1 + 1 = a0.size by omega]; exact HJ2.out
   case round =>
    clear HM BX HBV
    obtain ⟨q, rfl, HQ, HM, BX, HBV⟩ := hrel
    obtain ⟨hq1, hq2, hq3⟩ := HQ.out
    have hm1 := HM1.out
    obtain ⟨hx0, hf0⟩ := MR_celln 0 HM.out (m : Int) (by omega) (by omega)
    obtain ⟨hx1, hf1⟩ := MR_celln 0 HM.out (q : Int) (by omega) (by omega)
    have p1 : (0 ≤ (q : Int)) = True := eq_true (by omega)
    have q1 : ((q : Int) < (a0.size : Int)) = True := eq_true (by omega)
    have q4 : (q < a0.size) = True := eq_true (by omega)
    simp only [Int.toNat_natCast] at hx0 hf0 hx1 hf1
    have HQ1 := Aside0.mk hq1
    have HQ2 := Aside0.mk hq2
    have HQ3 := Aside0.mk hq3
    obtain ⟨b, hb⟩ : ∃ b, b = impl_step.bef a1 (rd ys (m : Int)) (rd ys (q : Int)) := ⟨_, rfl⟩
    have HBF := Aside0.mk hb
    clear hb hq1 hq2 hq3 hm1 HQ
    have hcl := fun (n : Nat) => impl_step.cl a1 (rd ys (m : Int)) (rd ys (q : Int)) g3 (wr.drewN n) (blk_drewN BX.out n)
    rw [← HBF.out] at hcl
    go_wp2
    go_quiet (first | (go_at_call 68; exact Calls.quiet_of (hcl _)))
    have hwd : wrap64 ((q : Int) - 1) = (q : Int) - 1 := by have := HZ.out; have := HQ1.out; unfold wrap64; omega
    have HM := Aside0.mk (MR_drewN HM.out nq)
    have BX := Aside0.mk (blk_drewN BX.out nq)
    have HBV := Aside0.mk (pw_below_drewN HBV.out nq)
    generalize wr.drewN nq = wq2 at HM BX HBV ⊢
    clear hx0 hf0 hx1 hf1 hcl
    cases b with
    | false =>
     have hu : impl_step.dn a1 ys (rd ys (m : Int)) q = some J := by
      have h := HQ2.out
      rw [impl_step.dn, ← HBF.out] at h
      simpa using h
     have hq0 : q ≠ 0 := by rintro rfl; simp [impl_step.dn] at hu
     have HU := Aside0.mk hu
     have HQ0 := Aside0.mk hq0
     clear hu hq0
     go_wp2
     go_roundg q
     case measure => exact HQ3.out
     case rel =>
      have hu := HU.out; have h1 := HQ1.out; have h0 := HQ0.out
      refine ⟨q - 1, ?_, ⟨by omega, ?_, by omega⟩, HM, BX, HBV⟩
      · first | (rw [hwd, show ((q - 1 : Nat) : Int) = (q : Int) - 1 by omega]) | (rw [show ((q - 1 : Nat) : Int) = (q : Int) - 1 by omega])
      rw [show q - 1 + 1 = q by omega]; exact hu
    | true =>
     have hqJ : q = J := by
      have h := HQ2.out
      rw [impl_step.dn, ← HBF.out] at h
      simpa using h
     subst hqJ
     have hm1 := HM1.out
     have hq1 := HQ1.out
     obtain ⟨hx0, hf0⟩ := MR_celln 0 HM.out (m : Int) (by omega) (by omega)
     obtain ⟨hxi, hfi⟩ := MR_celln 0 HM.out (q : Int) (by omega) (by omega)
     have hm2 := (MR_putg HM.out (m : Int) (rd ys (q : Int))).1
     obtain ⟨hx2, hf2⟩ := MR_celln 0 hm2 (q : Int) (by omega) (by omega)
     have hm3 := MR_drew (MR_putg hm2 (q : Int) (rd ys (m : Int))).1
     have hb2 := HBV.out.setCell (p := ⟨w3.heap.size, m, none⟩) (Nat.le_refl _) (.int .u8 (rd ys (q : Int)))
     have hb3 := hb2.setCell (p := ⟨w3.heap.size, q, none⟩) (Nat.le_refl _) (.int .u8 (rd ys (m : Int)))
     have hb4 := below_drew1 hb3
     simp only [Int.toNat_natCast] at hx0 hf0 hxi hfi hx2 hf2 hm3
     have p0 : (0 ≤ (m : Int)) = True := eq_true (by omega)
     have q0 : ((m : Int) < (a0.size : Int)) = True := eq_true (by omega)
     have q2 : (m < a0.size) = True := eq_true (by omega)
     have HBW := Aside0.mk hb4
     have HBS := Aside0.mk hb3
     have HM3 := Aside0.mk hm3
     have hwm : wrap64 ((m : Int) + 1) = (m : Int) + 1 := by have := HZ.out; unfold wrap64; omega
     have hwi : IntKind.i64.wrap ((m : Int) + 1) = (m : Int) + 1 := (i64_w _).trans hwm
     have s0 : (0 ≤ (m : Int) + 1) = True := eq_true (by omega)
     have s1 : ((m : Int) + 1 ≤ (a0.size : Int)) = True := eq_true (by omega)
     clear hm2 hm3 hb2 hb3 hb4 hm1 hq1
     go_wp2
     go_region
     obtain ⟨zs, hzs⟩ : ∃ zs, zs = impl_step.swap ys m q := ⟨_, rfl⟩
     have hsw : (ys.set m (rd ys (q : Int))).set q (rd ys (m : Int)) = zs := by rw [hzs]; rfl
     have hzl : zs.length = a0.size := by rw [← hsw, List.length_set, List.length_set, HBL.out]
     rw [hsw] at HM3
     have HZL := Aside0.mk hzl
     have HZS := Aside0.mk hzs
     obtain ⟨vs, hvs⟩ : ∃ vs, vs = zs.take (m + 1) ++ (zs.drop (m + 1)).reverse := ⟨_, rfl⟩
     have hvl : vs.length = a0.size := by rw [hvs]; simp; have := HM1.out; omega
     have HVS := Aside0.mk hvs
     have HVL := Aside0.mk hvl
     clear hsw hzl hzs hvs hvl hx0 hf0 hxi hfi hx2 hf2 HM HBV BX
     generalize ((wq2.setCell ⟨w3.heap.size, m, none⟩ (.int .u8 (rd ys (q : Int)))).setCell ⟨w3.heap.size, q, none⟩ (.int .u8 (rd ys (m : Int)))).drew = w8 at HM3 HBW ⊢
     have hcp : (cap = m + 1) = False := eq_false (by have := (MR_reads' HM3.out).2.1; have := HM1.out; omega)
     have hrev := RevB.Reverse_MR_cut (cap2 := cap - (m + 1)) (m := m + 1) HBW.out HM3.out (by have := HZL.out; have := HM1.out; omega) (by have := HZL.out; have := HZ.out; omega)
     rw [HZL.out, ← HVS.out] at hrev
     have HREV := Aside0.mk hrev
     clear hrev
     go_wp2_with (first | (go_at_call 46; refine HREV.out.mono ?_; rintro e w9 ⟨rfl, ho, hb⟩; have HBX := Aside0.mk hb; have hC := (MR_reads' ho).2.2; rw [HVL.out] at hC; have hcv := Kd.C_string (P := Tryz.prog) (src := 22) (dst := 9) (e := 5) (c := cap) Tryz.underlying22 Tryz.underlying5 Tryz.underlying9 hC; clear ho hb hC))
     go_ret2
     exact ⟨by rw [HVS.out, HZS.out]; rfl, below_step HB3.out (by repeat (first | exact HBX.out | apply below_drew1 | apply pw_below_drewN))⟩

/-! ### strconv_Itoa: function 36 -/
def strconv_Itoa.f (a0 : Int) : Option ByteArray := if -9223372036854775808 ≤ a0 then (if a0 ≤ 9223372036854775807 then some ⟨(Lib.itoa a0).toArray⟩ else none) else none
theorem strconv_Itoa.calls (a0 : Int) (r : ByteArray) (w : World) (hT : Shelf.TabOk w) (h : strconv_Itoa.f a0 = some r) :
 Calls Tryz.prog 36 #[.int .i64 a0] w fun e w' => e = .returned (.string r) ∧ Below w.heap.size w w' := by
 unfold strconv_Itoa.f at h
 by_cases h0 : -9223372036854775808 ≤ a0
 rotate_left
 · exact none_ (if_neg h0) h
 rw [if_pos h0] at h
 by_cases h1 : a0 ≤ 9223372036854775807
 rotate_left
 · exact none_ (if_neg h1) h
 rw [if_pos h1] at h
 obtain rfl := Option.some.inj h
 exact Shelf.Itoa_all a0 h0 h1 w hT

/-! ### impl_numberOf: function 37 -/
def impl_numberOf.l0 : Nat → ByteArray → Int → Int → Int → Option (Int)
 | 0, _, _, _, _ => none
 | k + 1, x0, x3, x6, x7 => if x7 < x6 then (if 0 ≤ x7 then (if x7 < (x0.size : Int) then (impl_numberOf.l0 k x0 (wrap64 ((wrap64 (10 * x3)) + (((bt x0 x7) - 48) % 256))) x6 (wrap64 (x7 + 1))) else (none)) else (none)) else (some x3)
def impl_numberOf.f (k : Nat) (a0 : ByteArray) : Option (Int) := impl_numberOf.l0 k a0 0 (a0.size : Int) 0
theorem impl_numberOf.mono_l : ∀ k, (∀ y0 y1 y2 y3, LeO (impl_numberOf.l0 k y0 y1 y2 y3) (impl_numberOf.l0 (k + 1) y0 y1 y2 y3))
 | 0 => fun _ _ _ _ r h => by simp [impl_numberOf.l0] at h
 | k + 1 => by
  have ih0 := impl_numberOf.mono_l k
  intro y0 y1 y2 y3
  unfold impl_numberOf.l0
  repeat' first
  | (with_reducible exact ih0 _ _ _ _)
  | (with_reducible exact LeO.refl _)
  | (with_reducible exact LeO.none _)
  | (with_reducible refine LeO.ite ?_ ?_)
  | (with_reducible refine LeO.bind ?_ (fun _ => ?_))
  | exact LeO.none _
  | refine LeO.ite ?_ ?_
  | refine LeO.bind ?_ (fun _ => ?_)
theorem impl_numberOf.mono : ∀ a0 k, LeO (impl_numberOf.f k a0) (impl_numberOf.f (k + 1) a0) := by
 intro a0 k
 have ih0 := impl_numberOf.mono_l k
 unfold impl_numberOf.f
 repeat' first
  | (with_reducible exact ih0 _ _ _ _)
  | (with_reducible exact LeO.refl _)
  | (with_reducible exact LeO.none _)
  | (with_reducible refine LeO.ite ?_ ?_)
  | (with_reducible refine LeO.bind ?_ (fun _ => ?_))
  | exact LeO.none _
  | refine LeO.ite ?_ ?_
  | refine LeO.bind ?_ (fun _ => ?_)
set_option maxHeartbeats 8000000 in
set_option maxRecDepth 100000 in
theorem impl_numberOf.calls (k : Nat) (a0 : ByteArray) (r : Int) (w : World) (h : impl_numberOf.f k a0 = some r) :
 Calls Tryz.prog 37 #[.string a0] w fun e w' => e = .returned (.int .i64 r) ∧ Drawn0 w w' := by
 unfold impl_numberOf.f at h
 have H := h
 clear h
 have H' := Aside0.mk H
 clear H
 go_enter Tryz.func37, Tryz.ntmps37
 go_wp2
 go_loopg [3, 7] k (fun kq v3 v7 w' => ∃ (x3_1 : Int) (x7_1 : Int), v3 = .int .i64 x3_1 ∧ v7 = .int .i64 x7_1 ∧ Aside0 (impl_numberOf.l0 kq a0 x3_1 (a0.size : Int) x7_1 = some r) ∧ Aside0 (kq ≤ k) ∧ Drawn0 w w')
 case atStart => exact ⟨(0), (0), zV_, zV_, H', ⟨Nat.le_refl _⟩, by repeat (first | exact Drawn0.refl _ | apply Drawn0.step)⟩
 case round =>
  clear H'
  obtain ⟨x3_1, x7_1, rfl, rfl, HA, HK1, ⟨m1, rfl⟩⟩ := hrel
  cases gk with
  | zero => exact absurd HA.out (by simp [impl_numberOf.l0])
  | succ k1 =>
   have H := HA.out
   clear HA
   simp only [impl_numberOf.l0] at H
   by_cases c2 : x7_1 < (a0.size : Int)
   · rw [if_pos c2] at H
     have c2b0 := decide_eq_true c2
     clear c2
     replace H := gd_ H; obtain ⟨c3, H⟩ := H
     have c3b0 : decide (0 ≤ x7_1) = true := decide_eq_true c3
     clear c3
     replace H := gd_ H; obtain ⟨c4, H⟩ := H
     have c4b0 : decide (x7_1 < (a0.size : Int)) = true := decide_eq_true c4
     clear c4
     have H' := Aside0.mk H
     clear H
     have p5 : 0 ≤ (x7_1 : Int) := of_decide_eq_true zS_
     have q5 : x7_1 < (a0.size : Int) := of_decide_eq_true zS_
     have hx5 := bt_at a0 x7_1
     replace p5 := eq_true p5
     replace q5 := eq_true q5
     go_wp2
     go_roundg k1
     case measure => have := HK1.out; omega
     case rel => exact ⟨(wrap64 ((wrap64 (10 * x3_1)) + (((bt a0 x7_1) - 48) % 256))), (wrap64 (x7_1 + 1)), zV_, zV_, H', ⟨by have := HK1.out; omega⟩, by repeat (first | exact Drawn0.refl _ | apply Drawn0.step)⟩
   rw [if_neg c2] at H
   have c2b0 := decide_eq_false c2
   clear c2
   obtain rfl := Option.some.inj H
   go_wp2
   go_ret
   exact ⟨by first | rfl | (simp; done) | (simp [*]; done), by repeat (first | exact Drawn0.refl _ | apply Drawn0.step)⟩

/-! ### impl_NextSameDigits: function 6 -/
def impl_NextSameDigits.f (k : Nat) (a0 : Int) : Option (Int × Bool) := (impl_isLeast.f a0).bind fun t158 => (if t158 = true then ((strconv_Itoa.f a0).bind fun t159 => ((impl_step.f t159 false).bind fun bt160 => (if bt160.2 = true then ((impl_numberOf.f k bt160.1).bind fun t162 => ((impl_isLeast.f t162).bind fun t163 => (if t163 = true then ((impl_numberOf.f k bt160.1).bind fun t164 => (some (t164, true))) else (some (0, false))))) else (some (0, false))))) else (some (0, false)))
theorem impl_NextSameDigits.mono : ∀ a0 k, LeO (impl_NextSameDigits.f k a0) (impl_NextSameDigits.f (k + 1) a0) := by
 intro a0 k
 unfold impl_NextSameDigits.f
 repeat' first
  | (with_reducible exact impl_numberOf.mono _ _)
  | (with_reducible exact LeO.refl _)
  | (with_reducible exact LeO.none _)
  | (with_reducible refine LeO.ite ?_ ?_)
  | (with_reducible refine LeO.bind ?_ (fun _ => ?_))
  | exact LeO.none _
  | refine LeO.ite ?_ ?_
  | refine LeO.bind ?_ (fun _ => ?_)
set_option maxHeartbeats 8000000 in
set_option maxRecDepth 100000 in
theorem impl_NextSameDigits.calls (k : Nat) (a0 : Int) (r1 : Int) (r2 : Bool) (w : World) (hT : Shelf.TabOk w) (h : impl_NextSameDigits.f k a0 = some (r1, r2)) :
 Calls Tryz.prog 6 #[.int .i64 a0] w fun e w' => e = .returned (.tuple #[.int .i64 r1, .bool r2]) ∧ Below w.heap.size w w' := by
 have HT := Aside0.mk hT
 clear hT
 have HB := Aside0.mk (Below.refl w.heap.size w)
 unfold impl_NextSameDigits.f at h
 have H := h
 clear h
 replace H := bd_ H; obtain ⟨t158, A2, H⟩ := H
 by_cases c3 : t158 = true
 · subst c3
   rw [if_pos rfl] at H
   replace H := bd_ H; obtain ⟨t159, A4, H⟩ := H
   replace H := bd_ H; obtain ⟨⟨t160, t161⟩, A5, H⟩ := H
   dsimp only at H
   by_cases c6 : t161 = true
   · subst c6
     rw [if_pos rfl] at H
     replace H := bd_ H; obtain ⟨t162, A7, H⟩ := H
     replace H := bd_ H; obtain ⟨t163, A8, H⟩ := H
     by_cases c9 : t163 = true
     · subst c9
       rw [if_pos rfl] at H
       replace H := bd_ H; obtain ⟨t164, A10, H⟩ := H
       simp only [Option.some.injEq, Prod.mk.injEq] at H
       obtain ⟨rfl, rfl⟩ := H
       go_enter Tryz.func6, Tryz.ntmps6
       go_wp2_with (first | ((with_reducible refine gc_ 34 rfl ?_); refine gL_ 7 Tryz.func34 #[.int .i64 a0] ?_; (with_reducible refine (impl_isLeast.calls a0 true _ A2.out).mono ?_); rintro e w' ⟨rfl, ⟨nd, rfl⟩⟩; refine ⟨_, rfl, ?_⟩) | ((with_reducible refine gc_ 36 rfl ?_); refine gL_ 11 Tryz.func36 #[.int .i64 a0] ?_; (with_reducible refine (strconv_Itoa.calls a0 t159 _ ?side1 A4.out).mono ?_); (case side1 => exact Shelf.TabOk.below HT.out zB_); rintro e w11 ⟨rfl, hb⟩; refine ⟨_, rfl, ?_⟩; replace HB := Aside0.mk (below_step zB_ hb); (try clear hb)) | ((with_reducible refine gc_ 35 rfl ?_); refine gL_ 12 Tryz.func35 #[.string t159, .bool false] ?_; (with_reducible refine (impl_step.calls t159 false t160 true _ A5.out).mono ?_); rintro e w12 ⟨rfl, hb⟩; refine ⟨_, rfl, ?_⟩; replace HB := Aside0.mk (below_step zB_ hb); (try clear hb)) | (go_at_call 37; (with_reducible refine (impl_numberOf.calls k t160 t162 _ A7.out).mono ?_); rintro e w' ⟨rfl, ⟨nd, rfl⟩⟩) | (go_at_call 34; (with_reducible refine (impl_isLeast.calls t162 true _ A8.out).mono ?_); rintro e w' ⟨rfl, ⟨nd, rfl⟩⟩) | ((with_reducible refine gc_ 37 rfl ?_); refine gL_ 24 Tryz.func37 #[.string t160] ?_; (with_reducible refine (impl_numberOf.calls k t160 t164 _ A10.out).mono ?_); rintro e w' ⟨rfl, ⟨nd, rfl⟩⟩; refine ⟨_, rfl, ?_⟩))
       go_ret2
       exact ⟨zR_, zB_⟩
     replace H := bf_ c9 H; obtain ⟨rfl, H⟩ := H
     simp only [Option.some.injEq, Prod.mk.injEq] at H
     obtain ⟨rfl, rfl⟩ := H
     go_enter Tryz.func6, Tryz.ntmps6
     go_wp2_with (first | ((with_reducible refine gc_ 34 rfl ?_); refine gL_ 7 Tryz.func34 #[.int .i64 a0] ?_; (with_reducible refine (impl_isLeast.calls a0 true _ A2.out).mono ?_); rintro e w' ⟨rfl, ⟨nd, rfl⟩⟩; refine ⟨_, rfl, ?_⟩) | ((with_reducible refine gc_ 36 rfl ?_); refine gL_ 11 Tryz.func36 #[.int .i64 a0] ?_; (with_reducible refine (strconv_Itoa.calls a0 t159 _ ?side1 A4.out).mono ?_); (case side1 => exact Shelf.TabOk.below HT.out zB_); rintro e w13 ⟨rfl, hb⟩; refine ⟨_, rfl, ?_⟩; replace HB := Aside0.mk (below_step zB_ hb); (try clear hb)) | ((with_reducible refine gc_ 35 rfl ?_); refine gL_ 12 Tryz.func35 #[.string t159, .bool false] ?_; (with_reducible refine (impl_step.calls t159 false t160 true _ A5.out).mono ?_); rintro e w14 ⟨rfl, hb⟩; refine ⟨_, rfl, ?_⟩; replace HB := Aside0.mk (below_step zB_ hb); (try clear hb)) | (go_at_call 37; (with_reducible refine (impl_numberOf.calls k t160 t162 _ A7.out).mono ?_); rintro e w' ⟨rfl, ⟨nd, rfl⟩⟩) | (go_at_call 34; (with_reducible refine (impl_isLeast.calls t162 false _ A8.out).mono ?_); rintro e w' ⟨rfl, ⟨nd, rfl⟩⟩))
     go_ret2
     exact ⟨zR_, zB_⟩
   replace H := bf_ c6 H; obtain ⟨rfl, H⟩ := H
   simp only [Option.some.injEq, Prod.mk.injEq] at H
   obtain ⟨rfl, rfl⟩ := H
   go_enter Tryz.func6, Tryz.ntmps6
   go_wp2_with (first | ((with_reducible refine gc_ 34 rfl ?_); refine gL_ 7 Tryz.func34 #[.int .i64 a0] ?_; (with_reducible refine (impl_isLeast.calls a0 true _ A2.out).mono ?_); rintro e w' ⟨rfl, ⟨nd, rfl⟩⟩; refine ⟨_, rfl, ?_⟩) | ((with_reducible refine gc_ 36 rfl ?_); refine gL_ 11 Tryz.func36 #[.int .i64 a0] ?_; (with_reducible refine (strconv_Itoa.calls a0 t159 _ ?side1 A4.out).mono ?_); (case side1 => exact Shelf.TabOk.below HT.out zB_); rintro e w15 ⟨rfl, hb⟩; refine ⟨_, rfl, ?_⟩; replace HB := Aside0.mk (below_step zB_ hb); (try clear hb)) | ((with_reducible refine gc_ 35 rfl ?_); refine gL_ 12 Tryz.func35 #[.string t159, .bool false] ?_; (with_reducible refine (impl_step.calls t159 false t160 false _ A5.out).mono ?_); rintro e w16 ⟨rfl, hb⟩; refine ⟨_, rfl, ?_⟩; replace HB := Aside0.mk (below_step zB_ hb); (try clear hb)))
   go_ret2
   exact ⟨zR_, zB_⟩
 replace H := bf_ c3 H; obtain ⟨rfl, H⟩ := H
 simp only [Option.some.injEq, Prod.mk.injEq] at H
 obtain ⟨rfl, rfl⟩ := H
 go_enter Tryz.func6, Tryz.ntmps6
 go_wp2_with (first | ((with_reducible refine gc_ 34 rfl ?_); refine gL_ 7 Tryz.func34 #[.int .i64 a0] ?_; (with_reducible refine (impl_isLeast.calls a0 false _ A2.out).mono ?_); rintro e w' ⟨rfl, ⟨nd, rfl⟩⟩; refine ⟨_, rfl, ?_⟩))
 go_ret2
 exact ⟨zR_, zB_⟩

/-! ### spec_l1In: function 55 -/
def spec_l1In.f (a0 : Int) (a1 : Int) (a2 : Int) : Option (Bool) := if a0 ≥ a1 then (some (decide (a0 ≤ a2))) else (some false)
set_option maxHeartbeats 8000000 in
set_option maxRecDepth 100000 in
theorem spec_l1In.calls (a0 : Int) (a1 : Int) (a2 : Int) (r : Bool) (w : World) (h : spec_l1In.f a0 a1 a2 = some r) :
 Calls Tryz.prog 55 #[.int .i64 a0, .int .i64 a1, .int .i64 a2] w fun e w' => e = .returned (.bool r) ∧ Drawn0 w w' := by
 unfold spec_l1In.f at h
 have H := h
 clear h
 by_cases c4 : a0 ≥ a1
 · rw [if_pos c4] at H
   have c4b0 : decide (a1 ≤ a0) = true := decide_eq_true c4
   clear c4
   obtain rfl := Option.some.inj H
   go_enter Tryz.func55, Tryz.ntmps55
   go_wp2
   go_ret
   exact ⟨by first | rfl | (simp; done) | (simp [*]; done), by repeat (first | exact Drawn0.refl _ | apply Drawn0.step)⟩
 rw [if_neg c4] at H
 have c4b0 : decide (a1 ≤ a0) = false := decide_eq_false c4
 clear c4
 obtain rfl := Option.some.inj H
 go_enter Tryz.func55, Tryz.ntmps55
 go_wp2
 go_ret
 exact ⟨by first | rfl | (simp; done) | (simp [*]; done), by repeat (first | exact Drawn0.refl _ | apply Drawn0.step)⟩

/-! ### spec_leNumber: function 38 -/
def spec_leNumber.f (a0 : Int) : Option (Bool) := (spec_l1In.f a0 0 1000000000000).bind fun t165 => (some t165)
set_option maxHeartbeats 8000000 in
set_option maxRecDepth 100000 in
theorem spec_leNumber.calls (a0 : Int) (r : Bool) (w : World) (h : spec_leNumber.f a0 = some r) :
 Calls Tryz.prog 38 #[.int .i64 a0] w fun e w' => e = .returned (.bool r) ∧ Drawn0 w w' := by
 unfold spec_leNumber.f at h
 have H := h
 clear h
 replace H := bd_ H; obtain ⟨t165, A2, H⟩ := H
 obtain rfl := Option.some.inj H
 go_enter Tryz.func38, Tryz.ntmps38
 go_wp2_with (first | ((with_reducible refine gc_ 55 rfl ?_); refine gL_ 4 Tryz.func55 #[.int .i64 a0, .int .i64 0, .int .i64 1000000000000] ?_; (with_reducible refine (spec_l1In.calls a0 0 1000000000000 t165 _ A2.out).mono ?_); rintro e w' ⟨rfl, ⟨nd, rfl⟩⟩; refine ⟨_, rfl, ?_⟩))
 go_ret
 exact ⟨by first | rfl | (simp; done) | (simp [*]; done), by repeat (first | exact Drawn0.refl _ | apply Drawn0.step)⟩

/-! ### spec_l1Own: function 70 -/
def spec_l1Own.f (l0 : List Int) : Option (List Int) := (some (([] : List Int) : List Int)).bind fun y166 => (if y166.length + l0.length < 17592186044416 then (some (y166 ++ l0)) else (none))
set_option maxHeartbeats 8000000 in
set_option maxRecDepth 100000 in
theorem spec_l1Own.calls (A0 : Option Addr) (c0 : Nat) (l0 : List Int) (r : List Int) (w : World) (hr0 : Kd.C (Kd.int .i64) w A0 l0.length l0) (hc0 : l0.length ≤ c0) (h : spec_l1Own.f l0 = some r) :
 Calls Tryz.prog 70 #[.slice A0 l0.length c0] w fun e w' => ∃ v0_ : Value, e = .returned (v0_) ∧ Kd.R (Kd.int .i64) 3 w' w.heap.size (fun _ => True) v0_ r ∧ Below w.heap.size w w' := by
 have HR0 := Aside0.mk hr0
 have HC0 := Aside0.mk hc0
 clear hr0 hc0
 have HB := Aside0.mk (Below.refl w.heap.size w)
 unfold spec_l1Own.f at h
 have H := h
 clear h
 obtain ⟨y166, hy166⟩ : ∃ y_ : List Int, y_ = (([] : List Int)) := ⟨_, rfl⟩
 replace H : (if y166.length + l0.length < 17592186044416 then (some (y166 ++ l0)) else (none)) = some r := by first | (rw [hy166]; with_reducible exact H) | (have H2_ := (Option.bind_some _ _).symm.trans H; rw [hy166]; with_reducible exact H2_) | (have H2_ := (Option.bind_some _ _).symm.trans H; with_reducible exact H2_) | with_reducible exact H | (rw [hy166]; exact H) | exact H
 have Ny166 := Aside0.mk hy166
 clear hy166
 replace H := gd_ H; obtain ⟨c2, H⟩ := H
 have LMc2 := Aside0.mk c2
 clear c2
 obtain ⟨y169, hy169⟩ : ∃ y_ : List Int, y_ = (y166 ++ l0) := ⟨_, rfl⟩
 replace H : (some y169) = some r := by first | (rw [hy169]; with_reducible exact H) | (have H2_ := (Option.bind_some _ _).symm.trans H; rw [hy169]; with_reducible exact H2_) | (have H2_ := (Option.bind_some _ _).symm.trans H; with_reducible exact H2_) | with_reducible exact H | (rw [hy169]; exact H) | exact H
 have Ny169 := Aside0.mk hy169
 clear hy169
 obtain rfl := Option.some.inj H
 go_enter Tryz.func70, Tryz.ntmps70
 go_wp2_with (first | ((with_reducible refine gate_dst (N := 3) rfl ?_); refine Kd.R_lit (Kd.int .i64) _ 3 ?hg (N := 3) ?hd (xs := ([] : List Int)) (inner := []) (ok := fun _ => True) (okp := fun _ => True) ?hr ?hp (fun _ hk => hk) trivial (Below.refl _ _) (Nat.le_refl _) (by simp) ?_; (case hd => rfl); (case hg => rfl); (case hr => first | (go_simp; done) | (go_simp; rfl)); (case hp => exact (Reps.none _ _)); intro v167 w3 ho4 hb hg_ hnew_; clear hg_ hnew_; (first | rw [← Ny166.out] at ho4 | (simp only [Int.reduceToNat] at ho4; rw [← Ny166.out] at ho4)); have HO168 := Aside0.mk (Kd.R_lower ho4 (below_size zB_)); replace HB := Aside0.mk (below_step zB_ hb); clear hb ho4) | ((with_reducible refine gate_builtin (b := .append) (xs := #[.tmp 3, .tmp 4]) rfl ?_); at_builtin; refine Kd.R_append_rows (Kd.int .i64) (w0 := w) w.heap.size rfl (.tmp 3) (.tmp 4) 41 3 (.int .i64 0) 8 rfl Tryz.underlying41 info3 rfl (by decide) (by omega) v167 y166 l0 _ _ _ (fun _ => True) (fun _ => False) rfl rfl ?aO ?aR (fun _ _ h => h) (fun _ h => h.elim) ?aF ?aB ?aS ?aL ?_; (case aR => repeat (first | exact (Kd.C_below HR0.out HB.out) | (with_reducible refine Kd.C_alloc ?_ _) | (with_reducible refine Kd.C_drewN ?_ _) | (with_reducible refine Kd.C_drew ?_))); (case aB => exact zB_); (case aF => exact (fun _ _ => trivial)); (case aO => exact (by (with_reducible repeat (first | apply Kd.R_alloc | apply Kd.R_drewN | apply Kd.R_drew)); exact HO168.out)); (case aS => exact (below_size zB_)); (case aL => have := LMc2.out; omega); intro v170 w5 ho hb hg hat; rw [← Ny169.out] at ho; replace HB := Aside0.mk (hb); have HO171 := Aside0.mk (ho); clear HO168; clear ho hb hg hat))
 go_ret
 exact ⟨_, by first | rfl | (simp [errW_none, errW_some] <;> rfl) | (simp [*, errW_none, errW_some] <;> rfl), by (with_reducible repeat (first | apply Kd.R_alloc | apply Kd.R_drewN | apply Kd.R_drew)); exact HO171.out, zB_⟩

end Go.Proofs.YtjnfaidngaobmaaGreatDoor.PFnLeastOfDigits

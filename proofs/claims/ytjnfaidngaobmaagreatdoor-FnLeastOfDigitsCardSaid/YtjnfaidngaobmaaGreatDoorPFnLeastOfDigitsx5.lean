-- Laid by this session's program gprint.py over the kit's print.
import Derived.Test.YtjnfaidngaobmaaGreatDoorZip
import Derived.Test.YtjnfaidngaobmaaGreatDoorPFnLeastOfDigitsx0
import Derived.Test.YtjnfaidngaobmaaGreatDoorPFnLeastOfDigitsx1
import Derived.Test.YtjnfaidngaobmaaGreatDoorPFnLeastOfDigitsx2
import Derived.Test.YtjnfaidngaobmaaGreatDoorPFnLeastOfDigitsx4
namespace Go.Proofs.YtjnfaidngaobmaaGreatDoor.PFnLeastOfDigits
open Go.RowKit Go.Proofs.YtjnfaidngaobmaaGreatDoorW.PrintWords Go.Proofs.YtjnfaidngaobmaaGreatDoorW.PrintLast Go.Proofs.YtjnfaidngaobmaaGreatDoorW.PrintMore
attribute [local go_sem] max2_int min2_int max_two min_two max_three min_three max_four min_four   -- for this text's walks alone
set_option linter.unusedVariables false
set_option linter.unusedSimpArgs false
theorem z5_0_ {p : Prop} (h : p := by (try simp only [List.map_toArray, List.map_cons, List.map_nil]); first | done | rfl | (simp only [List.length_drop, List.length_take]; rfl)) : p := h

/-! ### spec_LeastSameDigits: function 11 -/
def spec_LeastSameDigits.l0 : Nat → List Int → Int → Option (Int × Bool)
 | 0, _, _ => none
 | k + 1, x4, x5 => if x5 < (wrap64 ((x4.length : Int) - 1)) then (if 0 ≤ x5 then (if x5 < (x4.length : Int) then (if (rd x4 x5) = 0 then (spec_LeastSameDigits.l0 k x4 (wrap64 (x5 + 1))) else (if 0 < (x4.length : Int) then ((spec_leOf.f k ((x4.set (x5 : Int).toNat (rd x4 0)).set (0 : Int).toNat (rd x4 x5))).bind fun t241 => (some (t241, true))) else (none))) else (none)) else (none)) else (if 0 ≤ x5 then (if x5 < (x4.length : Int) then (if 0 < (x4.length : Int) then ((spec_leOf.f k ((x4.set (x5 : Int).toNat (rd x4 0)).set (0 : Int).toNat (rd x4 x5))).bind fun t246 => (some (t246, true))) else (none)) else (none)) else (none))
def spec_LeastSameDigits.f (k : Nat) (a0 : Int) : Option (Int × Bool) := (spec_leNumber.f a0).bind fun t232 => (if t232 = true then ((spec_leSorted.f k a0).bind fun t233 => (spec_LeastSameDigits.l0 k t233 0)) else (some (0, false)))
theorem spec_LeastSameDigits.mono_l : ∀ k, (∀ y0 y1, LeO (spec_LeastSameDigits.l0 k y0 y1) (spec_LeastSameDigits.l0 (k + 1) y0 y1))
 | 0 => fun _ _ r h => by simp [spec_LeastSameDigits.l0] at h
 | k + 1 => by
  have ih0 := spec_LeastSameDigits.mono_l k
  intro y0 y1
  unfold spec_LeastSameDigits.l0
  repeat' first
  | (with_reducible exact ih0 _ _)
  | (with_reducible exact spec_leOf.mono _ _)
  | (with_reducible exact spec_leSorted.mono _ _)
  | (with_reducible exact LeO.refl _)
  | (with_reducible exact LeO.none _)
  | (with_reducible refine LeO.ite ?_ ?_)
  | (with_reducible refine LeO.bind ?_ (fun _ => ?_))
  | exact LeO.none _
  | refine LeO.ite ?_ ?_
  | refine LeO.bind ?_ (fun _ => ?_)
theorem spec_LeastSameDigits.mono : ∀ a0 k, LeO (spec_LeastSameDigits.f k a0) (spec_LeastSameDigits.f (k + 1) a0) := by
 intro a0 k
 have ih0 := spec_LeastSameDigits.mono_l k
 unfold spec_LeastSameDigits.f
 repeat' first
  | (with_reducible exact ih0 _ _)
  | (with_reducible exact spec_leOf.mono _ _)
  | (with_reducible exact spec_leSorted.mono _ _)
  | (with_reducible exact LeO.refl _)
  | (with_reducible exact LeO.none _)
  | (with_reducible refine LeO.ite ?_ ?_)
  | (with_reducible refine LeO.bind ?_ (fun _ => ?_))
  | exact LeO.none _
  | refine LeO.ite ?_ ?_
  | refine LeO.bind ?_ (fun _ => ?_)
set_option maxHeartbeats 8000000 in
set_option maxRecDepth 100000 in
theorem spec_LeastSameDigits.calls (k : Nat) (a0 : Int) (r1 : Int) (r2 : Bool) (w : World) (h : spec_LeastSameDigits.f k a0 = some (r1, r2)) :
 Calls Tryz.prog 11 #[.int .i64 a0] w fun e w' => e = .returned (.tuple #[.int .i64 r1, .bool r2]) ∧ Below w.heap.size w w' := by
 have HB := Aside0.mk (Below.refl w.heap.size w)
 unfold spec_LeastSameDigits.f at h
 have H := h
 clear h
 replace H := bd_ H; obtain ⟨t232, A2, H⟩ := H
 by_cases c3 : t232 = true
 · subst c3
   rw [if_pos rfl] at H
   replace H := bd_ H; obtain ⟨t233, A4, H⟩ := H
   have H' := Aside0.mk H
   clear H
   go_enter Tryz.func11, Tryz.ntmps11
   go_wp2_with (first | ((with_reducible refine gc_ 38 rfl ?_); refine gL_ 8 Tryz.func38 #[.int .i64 a0] ?_; (with_reducible refine (spec_leNumber.calls a0 true _ A2.out).mono ?_); rintro e w' ⟨rfl, ⟨nd, rfl⟩⟩; refine ⟨_, rfl, ?_⟩) | ((with_reducible refine gc_ 45 rfl ?_); refine gL_ 11 Tryz.func45 #[.int .i64 a0] ?_; (with_reducible refine (spec_leSorted.calls k a0 t233 _ A4.out).mono ?_); rintro e w5 ⟨v234, rfl, ho0, hb⟩; refine ⟨_, rfl, ?_⟩; have HO235 := Aside0.mk (Kd.R_lower ho0 (below_size zB_)); replace HB := Aside0.mk (below_step zB_ hb); (try clear hb); (try clear ho0)))
   go_loopg [5] k (fun kq v5 w' => ∃ (x5_1 : Int), v5 = .int .i64 x5_1 ∧ Aside0 (spec_LeastSameDigits.l0 kq t233 x5_1 = some (r1, r2)) ∧ Aside0 (kq ≤ k) ∧ Aside0 (Kd.R (Kd.int .i64) 3 w' w.heap.size (fun _ => True) v234 t233) ∧ Aside0 (Below w.heap.size w w'))
   case atStart => exact ⟨(0), zV_, H', ⟨Nat.le_refl _⟩, ⟨by (with_reducible repeat (first | apply Kd.R_alloc | apply Kd.R_drewN | apply Kd.R_drew)); exact HO235.out⟩, ⟨zB_⟩⟩
   case round =>
    clear H'
    (try clear c1);(try clear p2);(try clear c3);(try clear c4)
    obtain ⟨x5_1, rfl, HA, HK1, HO_4, HB⟩ := hrel
    cases gk with
    | zero => exact absurd HA.out (by simp [spec_LeastSameDigits.l0])
    | succ k1 =>
     have H := HA.out
     clear HA
     simp only [spec_LeastSameDigits.l0] at H
     by_cases c6 : x5_1 < (wrap64 ((t233.length : Int) - 1))
     · rw [if_pos c6] at H
       have c6b0 := decide_eq_true c6
       clear c6
       replace H := gd_ H; obtain ⟨c7, H⟩ := H
       have c7b0 : decide (0 ≤ x5_1) = true := decide_eq_true c7
       clear c7
       replace H := gd_ H; obtain ⟨c8, H⟩ := H
       have c8b0 : decide (x5_1 < (t233.length : Int)) = true := decide_eq_true c8
       clear c8
       by_cases c9 : (rd t233 x5_1) = 0
       · rw [if_pos c9] at H
         have c9b0 : ((rd t233 x5_1) == 0) = true := beq_iff_eq.mpr c9
         have c9b1 : ((rd t233 x5_1) != 0) = false := bne_eq_false_iff_eq.mpr c9
         clear c9
         have H' := Aside0.mk H
         clear H
         obtain ⟨Ao10, co10, eo10⟩ := Kd.R_slice HO_4.out
         subst eo10
         have p236 : 0 ≤ (x5_1 : Int) := of_decide_eq_true zS_
         have q236 : x5_1 < (t233.length : Int) := of_decide_eq_true zS_
         obtain ⟨ad236, e236, hx236_0⟩ := Kd.at_int (Kd.R_reads' HO_4.out).2.2 x5_1 p236 q236
         cases e236
         replace p236 := eq_true p236
         replace q236 := eq_true q236
         go_wp2
         go_roundg k1
         case measure => have := HK1.out; omega
         case rel => exact ⟨(wrap64 (x5_1 + 1)), zV_, H', ⟨by have := HK1.out; omega⟩, ⟨by (with_reducible repeat (first | apply Kd.R_alloc | apply Kd.R_drewN | apply Kd.R_drew)); exact HO_4.out⟩, ⟨zB_⟩⟩
       rw [if_neg c9] at H
       have c9b0 : ((rd t233 x5_1) == 0) = false := beq_eq_false_iff_ne.mpr c9
       have c9b1 : ((rd t233 x5_1) != 0) = true := bne_iff_ne.mpr c9
       replace H := gd_ H; obtain ⟨c11, H⟩ := H
       have c11b0 : decide (0 < (t233.length : Int)) = true := decide_eq_true c11
       have c11b1 : decide (0 < t233.length) = true := decide_eq_true (by omega)
       clear c11
       obtain ⟨y239, hy239⟩ : ∃ y_ : List Int, y_ = (t233.set (x5_1 : Int).toNat (rd t233 0)) := ⟨_, rfl⟩
       replace H : ((spec_leOf.f k1 (y239.set (0 : Int).toNat (rd t233 x5_1))).bind fun t241 => (some (t241, true))) = some (r1, r2) := by first | (rw [hy239]; with_reducible exact H) | (have H2_ := (Option.bind_some _ _).symm.trans H; rw [hy239]; with_reducible exact H2_) | (have H2_ := (Option.bind_some _ _).symm.trans H; with_reducible exact H2_) | with_reducible exact H | (rw [hy239]; exact H) | exact H
       have Ny239 := Aside0.mk hy239
       clear hy239
       obtain ⟨y240, hy240⟩ : ∃ y_ : List Int, y_ = (y239.set (0 : Int).toNat (rd t233 x5_1)) := ⟨_, rfl⟩
       replace H : ((spec_leOf.f k1 y240).bind fun t241 => (some (t241, true))) = some (r1, r2) := by first | (rw [hy240]; with_reducible exact H) | (have H2_ := (Option.bind_some _ _).symm.trans H; rw [hy240]; with_reducible exact H2_) | (have H2_ := (Option.bind_some _ _).symm.trans H; with_reducible exact H2_) | with_reducible exact H | (rw [hy240]; exact H) | exact H
       have Ny240 := Aside0.mk hy240
       clear hy240
       replace H := bd_ H; obtain ⟨t241, A14, H⟩ := H
       simp only [Option.some.injEq, Prod.mk.injEq] at H
       obtain ⟨rfl, rfl⟩ := H
       obtain ⟨Ao15, co15, eo15⟩ := Kd.R_slice HO_4.out
       subst eo15
       have p236 : 0 ≤ (x5_1 : Int) := of_decide_eq_true zS_
       have q236 : x5_1 < (t233.length : Int) := of_decide_eq_true zS_
       obtain ⟨ad236, e236, hx236_0⟩ := Kd.at_int (Kd.R_reads' HO_4.out).2.2 x5_1 p236 q236
       cases e236
       replace p236 := eq_true p236
       replace q236 := eq_true q236
       have p237 : 0 ≤ (x5_1 : Int) := of_decide_eq_true zS_
       have q237 : x5_1 < (t233.length : Int) := of_decide_eq_true zS_
       obtain ⟨ad237, e237, hx237_0⟩ := Kd.at_int (Kd.R_reads' HO_4.out).2.2 x5_1 p237 q237
       obtain rfl : ad236 = ad237 := (by injection e237)
       replace p237 := eq_true p237
       replace q237 := eq_true q237
       have p238 : 0 ≤ (0 : Int) := (by omega)
       have q238 : 0 < (t233.length : Int) := of_decide_eq_true zS_
       obtain ⟨ad238, e238, hx238_0⟩ := Kd.at_int (Kd.R_reads' HO_4.out).2.2 0 p238 q238
       obtain rfl : ad236 = ad238 := (by injection e238)
       have qi238 : (0 < t233.length) = True := eq_true (by omega)
       (try rw [show ((0 : Int)).toNat = 0 from rfl] at hx238_0)
       (try rw [Addr.add_zero'] at hx238_0)
       replace p238 := eq_true p238
       replace q238 := eq_true q238
       have p12 : 0 ≤ (x5_1 : Int) := of_decide_eq_true zS_
       have q12 : (x5_1 : Int) < ((t233.length : Int) : Int) := of_decide_eq_true zS_
       obtain ⟨go12, co12, eo12, gb12, gl12, cl12, HG12⟩ := Kd.R_form HO_4.out (by omega)
       (first | cases eo12 | (injection eo12 with ea_ en_ ec_; (first | subst ea_ | (injection ea_ with ea_; subst ea_)); subst ec_; clear en_))
       have GB12 := Aside0.mk gb12
       have GG12 := Aside0.mk HG12
       clear gb12 gl12 HG12
       (first | simp only [add_plain] at hx236_0 | skip)
       (first | simp only [add_plain] at hx237_0 | skip)
       (first | simp only [add_plain] at hx238_0 | skip)
       obtain ⟨hx12_0, hf12_0⟩ := Kd.R_celln 0 HO_4.out (x5_1 : Int) p12 q12
       replace p12 := eq_true p12
       replace q12 := eq_true q12
       have HP16 := Kd.R_putg HO_4.out (x5_1 : Int) (rd t233 0)
       go_wp2_with (first | ((with_reducible refine gate_store (t := 3) (p := 35) rfl ?_); refine store_event (t := 3) (p := 35) (v := ?vo_w17) (w1 := (wr.setCell ⟨go12, (x5_1 : Int).toNat, none⟩ (.int .i64 (rd t233 0)))) ?hg ?ho ?hn ?hr ?_; (case ho => rfl); (case hg => rfl); (case hn => rfl); (case hr => first | (go_simp; done) | (go_simp; rfl)); intro w17 hw; have hg : wr.grownBy w17 (some go12) := (by rw [hw]; exact HP16.2); have hp_ : Kd.R (Kd.int .i64) 3 w17 w.heap.size (fun _ => True) (.slice (some ⟨go12, 0, none⟩) t233.length co15) y239 := (by rw [hw, Ny239.out]; exact HP16.1); clear HP16; replace HO_4 := Aside0.mk (hp_); replace HB := Aside0.mk ((by rw [hw]; exact below_set (HB.out) GB12.out : Below w.heap.size w w17)); clear hg hw hp_; have p13 : 0 ≤ (0 : Int) := (by omega); have q13 : (0 : Int) < ((t233.length : Int) : Int) := of_decide_eq_true zS_; have qi13 : (0 < t233.length) = True := eq_true (by omega); obtain ⟨hx13_0, hf13_0⟩ := Kd.R_celln 0 HO_4.out (0 : Int) p13 q13; (try rw [show ((0 : Int)).toNat = 0 from rfl] at hx13_0); (try simp only [Nat.reduceMul, Nat.zero_mul, Nat.zero_add, Nat.reduceAdd] at hx13_0); (try rw [show ((0 : Int)).toNat = 0 from rfl] at hf13_0); (try simp only [Nat.reduceMul, Nat.zero_mul, Nat.zero_add, Nat.reduceAdd] at hf13_0); replace p13 := eq_true p13; replace q13 := eq_true q13; obtain ⟨hy18_, hz18_⟩ := Kd.R_celln 0 HO_4.out (0 : Int) (by omega) (of_decide_eq_true zS_); (try simp only [Int.reduceToNat, Int.toNat_zero, Int.toNat_ofNat, Nat.reduceMul, Nat.zero_mul, Nat.zero_add] at hy18_ hz18_); (try rw [show ((0 : Int)).toNat = 0 from rfl] at hy18_); (try rw [show ((0 : Int)).toNat = 0 from rfl] at hz18_); have HP18 := Kd.R_putg HO_4.out (0 : Int) (rd t233 x5_1)) | ((with_reducible refine gate_store (t := 3) (p := 38) rfl ?_); refine store_event (t := 3) (p := 38) (v := ?vo_w19) (w1 := (w17.setCell ⟨go12, (0 : Int).toNat, none⟩ (.int .i64 (rd t233 x5_1)))) ?hg ?ho ?hn ?hr ?_; (case ho => rfl); (case hg => rfl); (case hn => rfl); (case hr => first | (go_simp; done) | (go_simp; rfl)); intro w19 hw; have hg : w17.grownBy w19 (some go12) := (by rw [hw]; exact HP18.2); have hp_ : Kd.R (Kd.int .i64) 3 w19 w.heap.size (fun _ => True) (.slice (some ⟨go12, 0, none⟩) t233.length co15) y240 := (by rw [hw, Ny240.out]; exact HP18.1); clear HP18; replace HO_4 := Aside0.mk (hp_); replace HB := Aside0.mk ((by rw [hw]; exact below_set (HB.out) GB12.out : Below w.heap.size w w19)); clear hg hw hp_) | ((with_reducible refine gc_ 41 rfl ?_); refine goesL_ (some 40) rfl rfl Tryz.func41 (by kernel_rfl) rfl #[.slice (some ⟨go12, 0, none⟩) y240.length co15] rfl (by (try simp only [List.map_toArray, List.map_cons, List.map_nil]); first | done | (rw [show y240.length = t233.length from (Kd.R_reads' HO_4.out).1.symm] <;> rfl) | rfl | (simp only [List.length_drop, List.length_take]; rfl)) ?_; (with_reducible refine (spec_leOf.calls k1 _ _ y240 t241 _ ?side1 ?side2 A14.out).mono ?_); (case side1 => repeat (first | exact (Kd.R_reads' HO_4.out).2.2 | (with_reducible refine Kd.C_alloc ?_ _) | (with_reducible refine Kd.C_drewN ?_ _) | (with_reducible refine Kd.C_drew ?_))); (case side2 => rw [show y240.length = t233.length from (Kd.R_reads' HO_4.out).1.symm]; exact (Kd.R_reads' HO_4.out).2.1); rintro e w' ⟨rfl, ⟨nd, rfl⟩⟩; refine ⟨_, rfl, ?_⟩))
       go_ret2
       exact ⟨zR_, zB_⟩
     rw [if_neg c6] at H
     have c6b0 := decide_eq_false c6
     clear c6
     replace H := gd_ H; obtain ⟨c20, H⟩ := H
     have c20b0 : decide (0 ≤ x5_1) = true := decide_eq_true c20
     clear c20
     replace H := gd_ H; obtain ⟨c21, H⟩ := H
     have c21b0 : decide (x5_1 < (t233.length : Int)) = true := decide_eq_true c21
     clear c21
     replace H := gd_ H; obtain ⟨c22, H⟩ := H
     have c22b0 : decide (0 < (t233.length : Int)) = true := decide_eq_true c22
     have c22b1 : decide (0 < t233.length) = true := decide_eq_true (by omega)
     clear c22
     obtain ⟨y244, hy244⟩ : ∃ y_ : List Int, y_ = (t233.set (x5_1 : Int).toNat (rd t233 0)) := ⟨_, rfl⟩
     replace H : ((spec_leOf.f k1 (y244.set (0 : Int).toNat (rd t233 x5_1))).bind fun t246 => (some (t246, true))) = some (r1, r2) := by first | (rw [hy244]; with_reducible exact H) | (have H2_ := (Option.bind_some _ _).symm.trans H; rw [hy244]; with_reducible exact H2_) | (have H2_ := (Option.bind_some _ _).symm.trans H; with_reducible exact H2_) | with_reducible exact H | (rw [hy244]; exact H) | exact H
     have Ny244 := Aside0.mk hy244
     clear hy244
     obtain ⟨y245, hy245⟩ : ∃ y_ : List Int, y_ = (y244.set (0 : Int).toNat (rd t233 x5_1)) := ⟨_, rfl⟩
     replace H : ((spec_leOf.f k1 y245).bind fun t246 => (some (t246, true))) = some (r1, r2) := by first | (rw [hy245]; with_reducible exact H) | (have H2_ := (Option.bind_some _ _).symm.trans H; rw [hy245]; with_reducible exact H2_) | (have H2_ := (Option.bind_some _ _).symm.trans H; with_reducible exact H2_) | with_reducible exact H | (rw [hy245]; exact H) | exact H
     have Ny245 := Aside0.mk hy245
     clear hy245
     replace H := bd_ H; obtain ⟨t246, A25, H⟩ := H
     simp only [Option.some.injEq, Prod.mk.injEq] at H
     obtain ⟨rfl, rfl⟩ := H
     obtain ⟨Ao26, co26, eo26⟩ := Kd.R_slice HO_4.out
     subst eo26
     have p242 : 0 ≤ (x5_1 : Int) := of_decide_eq_true zS_
     have q242 : x5_1 < (t233.length : Int) := of_decide_eq_true zS_
     obtain ⟨ad242, e242, hx242_0⟩ := Kd.at_int (Kd.R_reads' HO_4.out).2.2 x5_1 p242 q242
     cases e242
     replace p242 := eq_true p242
     replace q242 := eq_true q242
     have p243 : 0 ≤ (0 : Int) := (by omega)
     have q243 : 0 < (t233.length : Int) := of_decide_eq_true zS_
     obtain ⟨ad243, e243, hx243_0⟩ := Kd.at_int (Kd.R_reads' HO_4.out).2.2 0 p243 q243
     obtain rfl : ad242 = ad243 := (by injection e243)
     have qi243 : (0 < t233.length) = True := eq_true (by omega)
     (try rw [show ((0 : Int)).toNat = 0 from rfl] at hx243_0)
     (try rw [Addr.add_zero'] at hx243_0)
     replace p243 := eq_true p243
     replace q243 := eq_true q243
     have p23 : 0 ≤ (x5_1 : Int) := of_decide_eq_true zS_
     have q23 : (x5_1 : Int) < ((t233.length : Int) : Int) := of_decide_eq_true zS_
     obtain ⟨go23, co23, eo23, gb23, gl23, cl23, HG23⟩ := Kd.R_form HO_4.out (by omega)
     (first | cases eo23 | (injection eo23 with ea_ en_ ec_; (first | subst ea_ | (injection ea_ with ea_; subst ea_)); subst ec_; clear en_))
     have GB23 := Aside0.mk gb23
     have GG23 := Aside0.mk HG23
     clear gb23 gl23 HG23
     (first | simp only [add_plain] at hx242_0 | skip)
     (first | simp only [add_plain] at hx243_0 | skip)
     obtain ⟨hx23_0, hf23_0⟩ := Kd.R_celln 0 HO_4.out (x5_1 : Int) p23 q23
     replace p23 := eq_true p23
     replace q23 := eq_true q23
     have HP27 := Kd.R_putg HO_4.out (x5_1 : Int) (rd t233 0)
     go_wp2_with (first | ((with_reducible refine gate_store (t := 3) (p := 35) rfl ?_); refine store_event (t := 3) (p := 35) (v := ?vo_w28) (w1 := (wr.setCell ⟨go23, (x5_1 : Int).toNat, none⟩ (.int .i64 (rd t233 0)))) ?hg ?ho ?hn ?hr ?_; (case ho => rfl); (case hg => rfl); (case hn => rfl); (case hr => first | (go_simp; done) | (go_simp; rfl)); intro w28 hw; have hg : wr.grownBy w28 (some go23) := (by rw [hw]; exact HP27.2); have hp_ : Kd.R (Kd.int .i64) 3 w28 w.heap.size (fun _ => True) (.slice (some ⟨go23, 0, none⟩) t233.length co26) y244 := (by rw [hw, Ny244.out]; exact HP27.1); clear HP27; replace HO_4 := Aside0.mk (hp_); replace HB := Aside0.mk ((by rw [hw]; exact below_set (HB.out) GB23.out : Below w.heap.size w w28)); clear hg hw hp_; have p24 : 0 ≤ (0 : Int) := (by omega); have q24 : (0 : Int) < ((t233.length : Int) : Int) := of_decide_eq_true zS_; have qi24 : (0 < t233.length) = True := eq_true (by omega); obtain ⟨hx24_0, hf24_0⟩ := Kd.R_celln 0 HO_4.out (0 : Int) p24 q24; (try rw [show ((0 : Int)).toNat = 0 from rfl] at hx24_0); (try simp only [Nat.reduceMul, Nat.zero_mul, Nat.zero_add, Nat.reduceAdd] at hx24_0); (try rw [show ((0 : Int)).toNat = 0 from rfl] at hf24_0); (try simp only [Nat.reduceMul, Nat.zero_mul, Nat.zero_add, Nat.reduceAdd] at hf24_0); replace p24 := eq_true p24; replace q24 := eq_true q24; obtain ⟨hy29_, hz29_⟩ := Kd.R_celln 0 HO_4.out (0 : Int) (by omega) (of_decide_eq_true zS_); (try simp only [Int.reduceToNat, Int.toNat_zero, Int.toNat_ofNat, Nat.reduceMul, Nat.zero_mul, Nat.zero_add] at hy29_ hz29_); (try rw [show ((0 : Int)).toNat = 0 from rfl] at hy29_); (try rw [show ((0 : Int)).toNat = 0 from rfl] at hz29_); have HP29 := Kd.R_putg HO_4.out (0 : Int) (rd t233 x5_1)) | ((with_reducible refine gate_store (t := 3) (p := 38) rfl ?_); refine store_event (t := 3) (p := 38) (v := ?vo_w30) (w1 := (w28.setCell ⟨go23, (0 : Int).toNat, none⟩ (.int .i64 (rd t233 x5_1)))) ?hg ?ho ?hn ?hr ?_; (case ho => rfl); (case hg => rfl); (case hn => rfl); (case hr => first | (go_simp; done) | (go_simp; rfl)); intro w30 hw; have hg : w28.grownBy w30 (some go23) := (by rw [hw]; exact HP29.2); have hp_ : Kd.R (Kd.int .i64) 3 w30 w.heap.size (fun _ => True) (.slice (some ⟨go23, 0, none⟩) t233.length co26) y245 := (by rw [hw, Ny245.out]; exact HP29.1); clear HP29; replace HO_4 := Aside0.mk (hp_); replace HB := Aside0.mk ((by rw [hw]; exact below_set (HB.out) GB23.out : Below w.heap.size w w30)); clear hg hw hp_) | ((with_reducible refine gc_ 41 rfl ?_); refine goesL_ (some 40) rfl rfl Tryz.func41 (by kernel_rfl) rfl #[.slice (some ⟨go23, 0, none⟩) y245.length co26] rfl (by (try simp only [List.map_toArray, List.map_cons, List.map_nil]); first | done | (rw [show y245.length = t233.length from (Kd.R_reads' HO_4.out).1.symm] <;> rfl) | rfl | (simp only [List.length_drop, List.length_take]; rfl)) ?_; (with_reducible refine (spec_leOf.calls k1 _ _ y245 t246 _ ?side1 ?side2 A25.out).mono ?_); (case side1 => repeat (first | exact (Kd.R_reads' HO_4.out).2.2 | (with_reducible refine Kd.C_alloc ?_ _) | (with_reducible refine Kd.C_drewN ?_ _) | (with_reducible refine Kd.C_drew ?_))); (case side2 => rw [show y245.length = t233.length from (Kd.R_reads' HO_4.out).1.symm]; exact (Kd.R_reads' HO_4.out).2.1); rintro e w' ⟨rfl, ⟨nd, rfl⟩⟩; refine ⟨_, rfl, ?_⟩))
     go_ret2
     exact ⟨zR_, zB_⟩
 replace H := bf_ c3 H; obtain ⟨rfl, H⟩ := H
 simp only [Option.some.injEq, Prod.mk.injEq] at H
 obtain ⟨rfl, rfl⟩ := H
 go_enter Tryz.func11, Tryz.ntmps11
 go_wp2_with (first | ((with_reducible refine gc_ 38 rfl ?_); refine gL_ 8 Tryz.func38 #[.int .i64 a0] ?_; (with_reducible refine (spec_leNumber.calls a0 false _ A2.out).mono ?_); rintro e w' ⟨rfl, ⟨nd, rfl⟩⟩; refine ⟨_, rfl, ?_⟩))
 go_ret2
 exact ⟨zR_, zB_⟩

/-! ### impl_GreatestSameDigits: function 12 -/
-- behind 34 36 37
def impl_GreatestSameDigits.f (k : Nat) (a0 : Int) : Option (Int × Bool) := (impl_isLeast.f a0).bind fun t => if t = true then (strconv_Itoa.f a0).bind fun s => (if s.size ≤ 64 then (impl_numberOf.f k (strOfNums (SortB.sorted (bytesOf s)).reverse)).bind fun r => some (r, true) else none) else some (0, false)
theorem impl_GreatestSameDigits.mono : ∀ a0 k, LeO (impl_GreatestSameDigits.f k a0) (impl_GreatestSameDigits.f (k + 1) a0) := by
 intro a0 k
 unfold impl_GreatestSameDigits.f
 exact LeO.bind (LeO.refl _) (fun _ => LeO.ite (LeO.bind (LeO.refl _) (fun _ => LeO.ite (LeO.bind (impl_numberOf.mono _ _) (fun _ => LeO.refl _)) (LeO.refl _))) (LeO.refl _))
set_option maxHeartbeats 8000000 in
set_option maxRecDepth 100000 in
open Bytes in
theorem impl_GreatestSameDigits.calls (k : Nat) (a0 : Int) (r1 : Int) (r2 : Bool) (w : World) (hT : Shelf.TabOk w) (h : impl_GreatestSameDigits.f k a0 = some (r1, r2)) :
 Calls Tryz.prog 12 #[.int .i64 a0] w fun e w' => e = .returned (.tuple #[.int .i64 r1, .bool r2]) ∧ Below w.heap.size w w' := by
 have HT := Aside0.mk hT
 unfold impl_GreatestSameDigits.f at h
 obtain ⟨t, ht, h⟩ := Option.bind_eq_some_iff.mp h
 have A1 := Aside0.mk ht
 clear hT ht
 cases t with
 | false =>
  rw [if_neg (by decide)] at h
  simp only [Option.some.injEq, Prod.mk.injEq] at h
  obtain ⟨rfl, rfl⟩ := h
  go_enter Tryz.func12, Tryz.ntmps12
  go_wp2_with (first | (go_at_call 34; (with_reducible refine (impl_isLeast.calls a0 false _ A1.out).mono ?_); rintro e w' ⟨rfl, ⟨nd, rfl⟩⟩))
  go_ret2
  exact ⟨rfl, by repeat (first | exact Below.refl _ _ | apply pw_below_drewN | apply below_drew1)⟩
 | true =>
  rw [if_pos rfl] at h
  obtain ⟨s, hs, h⟩ := Option.bind_eq_some_iff.mp h
  by_cases hz : s.size ≤ 64
  rotate_left
  · exact none_ (if_neg hz) h
  rw [if_pos hz] at h
  obtain ⟨q, hq, h⟩ := Option.bind_eq_some_iff.mp h
  simp only [Option.some.injEq, Prod.mk.injEq] at h
  obtain ⟨rfl, rfl⟩ := h
  have hbl : (bytesOf s).length = s.size := (bytes_reads w 5 s (by omega)).1
  obtain ⟨ys, hys⟩ : ∃ ys, ys = (SortB.sorted (bytesOf s)).reverse := ⟨_, rfl⟩
  have hyl : ys.length = s.size := by rw [hys, List.length_reverse, SortB.sorted_length, hbl]
  rw [← hys] at hq
  have HS := Aside0.mk hs
  have HQ := Aside0.mk hq
  have HZ := Aside0.mk hz
  have HBL := Aside0.mk hbl
  have HYS := Aside0.mk hys
  have HYL := Aside0.mk hyl
  clear hs hq hz hbl hys hyl
  go_enter Tryz.func12, Tryz.ntmps12
  go_wp2_with (first | (go_at_call 34; (with_reducible refine (impl_isLeast.calls a0 true _ A1.out).mono ?_); rintro e w' ⟨rfl, ⟨nd, rfl⟩⟩) | (go_at_call 36; (with_reducible refine (strconv_Itoa.calls a0 s _ (Shelf.TabOk.below HT.out (by repeat (first | exact Below.refl _ _ | apply pw_below_drewN | apply below_drew1))) HS.out).mono ?_); rintro e w6 ⟨rfl, hb⟩; have HB6 := Aside0.mk (below_step (by repeat (first | exact Below.refl _ _ | apply pw_below_drewN | apply below_drew1) : Below w.heap.size w _) hb); clear hb; have hcv := Lib.run_convert_string_bytes (P := Tryz.prog) w6 9 22 5 s (u := .string) Tryz.underlying9 Tryz.underlying22 Tryz.underlying5; have hgr := grown_le w6 s.size 5 (by have := HZ.out; omega); have hm := MR_conv w6 5 s (by have := HZ.out; omega) w6.heap.size (Nat.le_refl _) hgr.2 hgr.1; have HBV := Aside0.mk (bytes_below (Below.refl w6.heap.size w6) (Nat.le_refl _) 5 s); generalize Lib.bytesWorld w6 5 s = w7 at hm HBV hcv; generalize grownCap w6 s.size 0 5 = cap at hm hcv; have HM := Aside0.mk hm; clear hm hgr) | (go_at_call 42; (with_reducible refine (SortB.Sort_MR HBV.out HM.out (by have := HBL.out; have := HZ.out; omega)).mono ?_); rintro e w8 ⟨rfl, ho, hb⟩; clear HM HBV hcv; have HM := Aside0.mk ho; have HBV := Aside0.mk hb; clear ho hb) | (go_at_call 46; (with_reducible refine (RevB.Reverse_MR HBV.out HM.out (by rw [SortB.sorted_length]; have := HBL.out; have := HZ.out; omega)).mono ?_); rintro e w9 ⟨rfl, ho, hb⟩; rw [← HYS.out] at ho; clear HM HBV; have HBV := Aside0.mk hb; have hC := (MR_reads' ho).2.2; rw [HYL.out] at hC; have hcv := Kd.C_string (P := Tryz.prog) (src := 22) (dst := 9) (e := 5) (c := cap) Tryz.underlying22 Tryz.underlying5 Tryz.underlying9 hC; clear ho hb hC) | (go_at_call 37; (with_reducible refine (impl_numberOf.calls k _ q _ HQ.out).mono ?_); rintro e w' ⟨rfl, ⟨nd, rfl⟩⟩))
  go_ret2
  exact ⟨rfl, by repeat (first | exact below_step HB6.out HBV.out | apply pw_below_drewN | apply below_drew1)⟩

/-! ### spec_GreatestSameDigits: function 13 -/
def spec_GreatestSameDigits.l0 : Nat → List Int → Int → Int → Option (Int × Bool)
 | 0, _, _, _ => none
 | k + 1, x4, x5, x6 => if x6 ≥ 0 then (if 0 ≤ x6 then (if x6 < (x4.length : Int) then (spec_GreatestSameDigits.l0 k x4 (wrap64 ((wrap64 (10 * x5)) + (rd x4 x6))) (wrap64 (x6 - 1))) else (none)) else (none)) else (some (x5, true))
def spec_GreatestSameDigits.f (k : Nat) (a0 : Int) : Option (Int × Bool) := (spec_leNumber.f a0).bind fun t247 => (if t247 = true then ((spec_leSorted.f k a0).bind fun t248 => (spec_GreatestSameDigits.l0 k t248 0 (wrap64 ((t248.length : Int) - 1)))) else (some (0, false)))
theorem spec_GreatestSameDigits.mono_l : ∀ k, (∀ y0 y1 y2, LeO (spec_GreatestSameDigits.l0 k y0 y1 y2) (spec_GreatestSameDigits.l0 (k + 1) y0 y1 y2))
 | 0 => fun _ _ _ r h => by simp [spec_GreatestSameDigits.l0] at h
 | k + 1 => by
  have ih0 := spec_GreatestSameDigits.mono_l k
  intro y0 y1 y2
  unfold spec_GreatestSameDigits.l0
  repeat' first
  | (with_reducible exact ih0 _ _ _)
  | (with_reducible exact spec_leSorted.mono _ _)
  | (with_reducible exact LeO.refl _)
  | (with_reducible exact LeO.none _)
  | (with_reducible refine LeO.ite ?_ ?_)
  | (with_reducible refine LeO.bind ?_ (fun _ => ?_))
  | exact LeO.none _
  | refine LeO.ite ?_ ?_
  | refine LeO.bind ?_ (fun _ => ?_)
theorem spec_GreatestSameDigits.mono : ∀ a0 k, LeO (spec_GreatestSameDigits.f k a0) (spec_GreatestSameDigits.f (k + 1) a0) := by
 intro a0 k
 have ih0 := spec_GreatestSameDigits.mono_l k
 unfold spec_GreatestSameDigits.f
 repeat' first
  | (with_reducible exact ih0 _ _ _)
  | (with_reducible exact spec_leSorted.mono _ _)
  | (with_reducible exact LeO.refl _)
  | (with_reducible exact LeO.none _)
  | (with_reducible refine LeO.ite ?_ ?_)
  | (with_reducible refine LeO.bind ?_ (fun _ => ?_))
  | exact LeO.none _
  | refine LeO.ite ?_ ?_
  | refine LeO.bind ?_ (fun _ => ?_)
set_option maxHeartbeats 8000000 in
set_option maxRecDepth 100000 in
theorem spec_GreatestSameDigits.calls (k : Nat) (a0 : Int) (r1 : Int) (r2 : Bool) (w : World) (h : spec_GreatestSameDigits.f k a0 = some (r1, r2)) :
 Calls Tryz.prog 13 #[.int .i64 a0] w fun e w' => e = .returned (.tuple #[.int .i64 r1, .bool r2]) ∧ Below w.heap.size w w' := by
 have HB := Aside0.mk (Below.refl w.heap.size w)
 unfold spec_GreatestSameDigits.f at h
 have H := h
 clear h
 replace H := bd_ H; obtain ⟨t247, A2, H⟩ := H
 by_cases c3 : t247 = true
 · subst c3
   rw [if_pos rfl] at H
   replace H := bd_ H; obtain ⟨t248, A4, H⟩ := H
   have H' := Aside0.mk H
   clear H
   go_enter Tryz.func13, Tryz.ntmps13
   go_wp2_with (first | ((with_reducible refine gc_ 38 rfl ?_); refine gL_ 8 Tryz.func38 #[.int .i64 a0] ?_; (with_reducible refine (spec_leNumber.calls a0 true _ A2.out).mono ?_); rintro e w' ⟨rfl, ⟨nd, rfl⟩⟩; refine ⟨_, rfl, ?_⟩) | ((with_reducible refine gc_ 45 rfl ?_); refine gL_ 11 Tryz.func45 #[.int .i64 a0] ?_; (with_reducible refine (spec_leSorted.calls k a0 t248 _ A4.out).mono ?_); rintro e w5 ⟨v249, rfl, ho0, hb⟩; refine ⟨_, rfl, ?_⟩; have HO250 := Aside0.mk (Kd.R_lower ho0 (below_size zB_)); replace HB := Aside0.mk (below_step zB_ hb); (try clear hb); (try clear ho0); obtain ⟨Ao6, co6, eo6⟩ := Kd.R_slice HO250.out; subst eo6))
   go_loopg [5, 6] k (fun kq v5 v6 w' => ∃ (x5_1 : Int) (x6_1 : Int), v5 = .int .i64 x5_1 ∧ v6 = .int .i64 x6_1 ∧ Aside0 (spec_GreatestSameDigits.l0 kq t248 x5_1 x6_1 = some (r1, r2)) ∧ Aside0 (kq ≤ k) ∧ Aside0 (Kd.R (Kd.int .i64) 3 w' w.heap.size (fun _ => True) (.slice Ao6 t248.length co6) t248) ∧ Aside0 (Below w.heap.size w w'))
   case atStart => exact ⟨(0), (wrap64 ((t248.length : Int) - 1)), zV_, zV_, H', ⟨Nat.le_refl _⟩, ⟨by (with_reducible repeat (first | apply Kd.R_alloc | apply Kd.R_drewN | apply Kd.R_drew)); exact HO250.out⟩, ⟨zB_⟩⟩
   case round =>
    clear H'
    (try clear c1);(try clear p2);(try clear c3);(try clear c4);(try clear p6)
    obtain ⟨x5_1, x6_1, rfl, rfl, HA, HK1, HO_4, HB⟩ := hrel
    cases gk with
    | zero => exact absurd HA.out (by simp [spec_GreatestSameDigits.l0])
    | succ k1 =>
     have H := HA.out
     clear HA
     simp only [spec_GreatestSameDigits.l0] at H
     by_cases c7 : x6_1 ≥ 0
     · rw [if_pos c7] at H
       have c7b0 : decide (0 ≤ x6_1) = true := decide_eq_true c7
       clear c7
       replace H := gd_ H; obtain ⟨c8, H⟩ := H
       have c8b0 : decide (0 ≤ x6_1) = true := decide_eq_true c8
       clear c8
       replace H := gd_ H; obtain ⟨c9, H⟩ := H
       have c9b0 : decide (x6_1 < (t248.length : Int)) = true := decide_eq_true c9
       clear c9
       have H' := Aside0.mk H
       clear H
       have p251 : 0 ≤ (x6_1 : Int) := of_decide_eq_true zS_
       have q251 : x6_1 < (t248.length : Int) := of_decide_eq_true zS_
       obtain ⟨ad251, e251, hx251_0⟩ := Kd.at_int (Kd.R_reads' HO_4.out).2.2 x6_1 p251 q251
       cases e251
       replace p251 := eq_true p251
       replace q251 := eq_true q251
       go_wp2
       go_roundg k1
       case measure => have := HK1.out; omega
       case rel => exact ⟨(wrap64 ((wrap64 (10 * x5_1)) + (rd t248 x6_1))), (wrap64 (x6_1 - 1)), zV_, zV_, H', ⟨by have := HK1.out; omega⟩, ⟨by (with_reducible repeat (first | apply Kd.R_alloc | apply Kd.R_drewN | apply Kd.R_drew)); exact HO_4.out⟩, ⟨zB_⟩⟩
     rw [if_neg c7] at H
     have c7b0 : decide (0 ≤ x6_1) = false := decide_eq_false c7
     clear c7
     simp only [Option.some.injEq, Prod.mk.injEq] at H
     obtain ⟨rfl, rfl⟩ := H
     go_wp2
     go_ret2
     exact ⟨zR_, zB_⟩
 replace H := bf_ c3 H; obtain ⟨rfl, H⟩ := H
 simp only [Option.some.injEq, Prod.mk.injEq] at H
 obtain ⟨rfl, rfl⟩ := H
 go_enter Tryz.func13, Tryz.ntmps13
 go_wp2_with (first | ((with_reducible refine gc_ 38 rfl ?_); refine gL_ 8 Tryz.func38 #[.int .i64 a0] ?_; (with_reducible refine (spec_leNumber.calls a0 false _ A2.out).mono ?_); rintro e w' ⟨rfl, ⟨nd, rfl⟩⟩; refine ⟨_, rfl, ?_⟩))
 go_ret2
 exact ⟨zR_, zB_⟩

/-! ### impl_isWritten: function 73 -/
def impl_isWritten.f (a0 : Int) : Option (Bool) := (impl_within.f a0 0 1000000000000).bind fun t252 => (some t252)
set_option maxHeartbeats 8000000 in
set_option maxRecDepth 100000 in
theorem impl_isWritten.calls (a0 : Int) (r : Bool) (w : World) (h : impl_isWritten.f a0 = some r) :
 Calls Tryz.prog 73 #[.int .i64 a0] w fun e w' => e = .returned (.bool r) ∧ Drawn0 w w' := by
 unfold impl_isWritten.f at h
 have H := h
 clear h
 replace H := bd_ H; obtain ⟨t252, A2, H⟩ := H
 obtain rfl := Option.some.inj H
 go_enter Tryz.func73, Tryz.ntmps73
 go_wp2_with (first | ((with_reducible refine gc_ 66 rfl ?_); refine gL_ 4 Tryz.func66 #[.int .i64 a0, .int .i64 0, .int .i64 1000000000000] ?_; (with_reducible refine (impl_within.calls a0 0 1000000000000 t252 _ A2.out).mono ?_); rintro e w' ⟨rfl, ⟨nd, rfl⟩⟩; refine ⟨_, rfl, ?_⟩))
 go_ret
 exact ⟨by first | rfl | (simp; done) | (simp [*]; done), by repeat (first | exact Drawn0.refl _ | apply Drawn0.step)⟩

/-! ### impl_digitProduct: function 74 -/
-- behind 36
def impl_digitProduct.l0 : Nat → List Int → Int → Int → Option Int
 | 0, _, _, _ => none
 | k + 1, xs, out, i => if i < (xs.length : Int) then (if 0 ≤ i then impl_digitProduct.l0 k xs (wrap64 (out * (((rd xs i) - 48) % 256))) (wrap64 (i + 1)) else none) else some out
def impl_digitProduct.f (k : Nat) (a0 : Int) : Option Int := (strconv_Itoa.f a0).bind fun t => (if t.size ≤ 1048576 then impl_digitProduct.l0 k (bytesOf t) 1 0 else none)
theorem impl_digitProduct.mono_0 : ∀ k xs out i, LeO (impl_digitProduct.l0 k xs out i) (impl_digitProduct.l0 (k + 1) xs out i)
 | 0 => fun _ _ _ r h => by simp [impl_digitProduct.l0] at h
 | k + 1 => fun xs out i => by
  have ih := impl_digitProduct.mono_0 k
  unfold impl_digitProduct.l0
  exact LeO.ite (LeO.ite (ih _ _ _) (LeO.none _)) (LeO.refl _)
theorem impl_digitProduct.mono : ∀ a0 k, LeO (impl_digitProduct.f k a0) (impl_digitProduct.f (k + 1) a0) := by
 intro a0 k
 unfold impl_digitProduct.f
 exact LeO.bind (LeO.refl _) (fun _ => LeO.ite (impl_digitProduct.mono_0 _ _ _ _) (LeO.refl _))
set_option maxHeartbeats 8000000 in
set_option maxRecDepth 100000 in
open Bytes in
theorem impl_digitProduct.calls (k : Nat) (a0 : Int) (r : Int) (w : World) (hT : Shelf.TabOk w) (h : impl_digitProduct.f k a0 = some r) :
 Calls Tryz.prog 74 #[.int .i64 a0] w fun e w' => e = .returned (.int .i64 r) ∧ Below w.heap.size w w' := by
 have HT := Aside0.mk hT
 clear hT
 unfold impl_digitProduct.f at h
 obtain ⟨t, ht, h⟩ := Option.bind_eq_some_iff.mp h
 by_cases hz : t.size ≤ 1048576
 rotate_left
 · exact none_ (if_neg hz) h
 rw [if_pos hz] at h
 have A1 := Aside0.mk ht
 have hbl : (bytesOf t).length = t.size := (bytes_reads w 5 t (by omega)).1
 have H' := Aside0.mk h
 have HZ := Aside0.mk hz
 have HN : Aside0 ((bytesOf t).length = t.size) := ⟨hbl⟩
 have HB0 := Aside0.mk (Below.refl w.heap.size w)
 clear h hz hbl ht
 go_enter Tryz.func74, Tryz.ntmps74
 go_wp2_with (first | (go_at_call 36; (with_reducible refine (strconv_Itoa.calls a0 t _ HT.out A1.out).mono ?_); rintro e w6 ⟨rfl, hb⟩; have HB6 := Aside0.mk (below_step HB0.out hb); clear hb; have hcv := Lib.run_convert_string_bytes (P := Tryz.prog) w6 9 22 5 t (u := .string) Tryz.underlying9 Tryz.underlying22 Tryz.underlying5; have hgr := grown_le w6 t.size 5 (by have := HZ.out; omega); have hm := MR_conv w6 5 t (by have := HZ.out; omega) w6.heap.size (Nat.le_refl _) hgr.2 hgr.1; have HBV := Aside0.mk (bytes_below (Below.refl w6.heap.size w6) (Nat.le_refl _) 5 t); generalize Lib.bytesWorld w6 5 t = w7 at hm HBV hcv; generalize grownCap w6 t.size 0 5 = cap at hm hcv; have HM := Aside0.mk hm; clear hm hgr))
 go_loopg [3, 10] k (fun kq v3 v10 w' => ∃ (x i : Int), v3 = .int .i64 x ∧ v10 = .int .i64 i ∧ Aside0 (impl_digitProduct.l0 kq (bytesOf t) x i = some r) ∧ Aside0 (MR 5 w' w6.heap.size (fun _ => True) (.slice (some ⟨w6.heap.size, 0, none⟩) t.size cap) (bytesOf t)) ∧ Aside0 (Below w6.heap.size w6 w'))
 case atStart => exact ⟨1, 0, rfl, rfl, H', HM, HBV⟩
 case round =>
  clear H' HM HBV A1
  (try clear hcv)
  obtain ⟨x, i, rfl, rfl, HA, HO, HB⟩ := hrel
  cases gk with
  | zero => exact absurd HA.out (by simp [impl_digitProduct.l0])
  | succ k1 =>
   have H := HA.out
   clear HA
   simp only [impl_digitProduct.l0] at H
   by_cases c1 : i < ((bytesOf t).length : Int)
   · rw [if_pos c1] at H
     replace H := gd_ H; obtain ⟨c2, H⟩ := H
     have q1 : i < (t.size : Int) := by rw [← HN.out]; exact c1
     have H' := Aside0.mk H
     clear H
     obtain ⟨hx18_0, hf18_0⟩ := MR_celln 0 HO.out i c2 q1
     have c1b0 : decide (i < (t.size : Int)) = true := decide_eq_true q1
     replace p18 := eq_true c2
     replace q18 := eq_true q1
     clear c1 c2 q1
     go_wp2
     go_roundg k1
     case measure => omega
     case rel => exact ⟨_, wrap64 (i + 1), rfl, rfl, H', HO, HB⟩
   rw [if_neg c1] at H
   have c1b0 : decide (i < (t.size : Int)) = false := decide_eq_false (by rw [← HN.out]; exact c1)
   obtain rfl := Option.some.inj H
   clear H c1
   go_wp2
   go_ret
   exact ⟨rfl, below_step HB6.out HB.out⟩

/-! ### impl_DigitProduct: function 47 -/
def impl_DigitProduct.f (k : Nat) (a0 : Int) : Option (Int × Bool) := (impl_isWritten.f a0).bind fun t253 => (if t253 = true then ((impl_digitProduct.f k a0).bind fun t254 => (some (t254, true))) else (some (0, false)))
theorem impl_DigitProduct.mono : ∀ a0 k, LeO (impl_DigitProduct.f k a0) (impl_DigitProduct.f (k + 1) a0) := by
 intro a0 k
 unfold impl_DigitProduct.f
 repeat' first
  | (with_reducible exact impl_digitProduct.mono _ _)
  | (with_reducible exact LeO.refl _)
  | (with_reducible exact LeO.none _)
  | (with_reducible refine LeO.ite ?_ ?_)
  | (with_reducible refine LeO.bind ?_ (fun _ => ?_))
  | exact LeO.none _
  | refine LeO.ite ?_ ?_
  | refine LeO.bind ?_ (fun _ => ?_)
set_option maxHeartbeats 8000000 in
set_option maxRecDepth 100000 in
theorem impl_DigitProduct.calls (k : Nat) (a0 : Int) (r1 : Int) (r2 : Bool) (w : World) (hT : Shelf.TabOk w) (h : impl_DigitProduct.f k a0 = some (r1, r2)) :
 Calls Tryz.prog 47 #[.int .i64 a0] w fun e w' => e = .returned (.tuple #[.int .i64 r1, .bool r2]) ∧ Below w.heap.size w w' := by
 have HT := Aside0.mk hT
 clear hT
 have HB := Aside0.mk (Below.refl w.heap.size w)
 unfold impl_DigitProduct.f at h
 have H := h
 clear h
 replace H := bd_ H; obtain ⟨t253, A2, H⟩ := H
 by_cases c3 : t253 = true
 · subst c3
   rw [if_pos rfl] at H
   replace H := bd_ H; obtain ⟨t254, A4, H⟩ := H
   simp only [Option.some.injEq, Prod.mk.injEq] at H
   obtain ⟨rfl, rfl⟩ := H
   go_enter Tryz.func47, Tryz.ntmps47
   go_wp2_with (first | ((with_reducible refine gc_ 73 rfl ?_); refine gL_ 5 Tryz.func73 #[.int .i64 a0] ?_; (with_reducible refine (impl_isWritten.calls a0 true _ A2.out).mono ?_); rintro e w' ⟨rfl, ⟨nd, rfl⟩⟩; refine ⟨_, rfl, ?_⟩) | ((with_reducible refine gc_ 74 rfl ?_); refine gL_ 8 Tryz.func74 #[.int .i64 a0] ?_; (with_reducible refine (impl_digitProduct.calls k a0 t254 _ ?side1 A4.out).mono ?_); (case side1 => exact Shelf.TabOk.below HT.out zB_); rintro e w5 ⟨rfl, hb⟩; refine ⟨_, rfl, ?_⟩; replace HB := Aside0.mk (below_step zB_ hb); (try clear hb)))
   go_ret2
   exact ⟨zR_, zB_⟩
 replace H := bf_ c3 H; obtain ⟨rfl, H⟩ := H
 simp only [Option.some.injEq, Prod.mk.injEq] at H
 obtain ⟨rfl, rfl⟩ := H
 go_enter Tryz.func47, Tryz.ntmps47
 go_wp2_with (first | ((with_reducible refine gc_ 73 rfl ?_); refine gL_ 5 Tryz.func73 #[.int .i64 a0] ?_; (with_reducible refine (impl_isWritten.calls a0 false _ A2.out).mono ?_); rintro e w' ⟨rfl, ⟨nd, rfl⟩⟩; refine ⟨_, rfl, ?_⟩))
 go_ret2
 exact ⟨zR_, zB_⟩

/-! ### impl_ProductOfDigits: function 14 -/
def impl_ProductOfDigits.f (k : Nat) (a0 : Int) : Option (Int × Bool) := (impl_DigitProduct.f k a0).bind fun bt255 => (some (bt255.1, bt255.2))
theorem impl_ProductOfDigits.mono : ∀ a0 k, LeO (impl_ProductOfDigits.f k a0) (impl_ProductOfDigits.f (k + 1) a0) := by
 intro a0 k
 unfold impl_ProductOfDigits.f
 repeat' first
  | (with_reducible exact impl_DigitProduct.mono _ _)
  | (with_reducible exact LeO.refl _)
  | (with_reducible exact LeO.none _)
  | (with_reducible refine LeO.ite ?_ ?_)
  | (with_reducible refine LeO.bind ?_ (fun _ => ?_))
  | exact LeO.none _
  | refine LeO.ite ?_ ?_
  | refine LeO.bind ?_ (fun _ => ?_)
set_option maxHeartbeats 8000000 in
set_option maxRecDepth 100000 in
theorem impl_ProductOfDigits.calls (k : Nat) (a0 : Int) (r1 : Int) (r2 : Bool) (w : World) (hT : Shelf.TabOk w) (h : impl_ProductOfDigits.f k a0 = some (r1, r2)) :
 Calls Tryz.prog 14 #[.int .i64 a0] w fun e w' => e = .returned (.tuple #[.int .i64 r1, .bool r2]) ∧ Below w.heap.size w w' := by
 have HT := Aside0.mk hT
 clear hT
 have HB := Aside0.mk (Below.refl w.heap.size w)
 unfold impl_ProductOfDigits.f at h
 have H := h
 clear h
 replace H := bd_ H; obtain ⟨⟨t255, t256⟩, A2, H⟩ := H
 dsimp only at H
 simp only [Option.some.injEq, Prod.mk.injEq] at H
 obtain ⟨rfl, rfl⟩ := H
 go_enter Tryz.func14, Tryz.ntmps14
 go_wp2_with (first | ((with_reducible refine gc_ 47 rfl ?_); refine gL_ 5 Tryz.func47 #[.int .i64 a0] ?_; (with_reducible refine (impl_DigitProduct.calls k a0 t255 t256 _ ?side1 A2.out).mono ?_); (case side1 => exact Shelf.TabOk.below HT.out zB_); rintro e w3 ⟨rfl, hb⟩; refine ⟨_, rfl, ?_⟩; replace HB := Aside0.mk (below_step zB_ hb); (try clear hb)))
 go_ret2
 exact ⟨zR_, zB_⟩

/-! ### spec_leProduct: function 48 -/
def spec_leProduct.l0 : Nat → Int → List Int → Int → Int → Option (Int)
 | 0, _, _, _, _ => none
 | k + 1, x3, x7, x8, x9 => if x9 < x8 then (if 0 ≤ x9 then (if x9 < (x7.length : Int) then (spec_leProduct.l0 k (wrap64 (x3 * (rd x7 x9))) x7 x8 (wrap64 (x9 + 1))) else (none)) else (none)) else (some x3)
def spec_leProduct.f (k : Nat) (a0 : Int) : Option (Int) := (spec_leList.f k a0).bind fun t257 => (spec_leProduct.l0 k 1 t257 (t257.length : Int) 0)
theorem spec_leProduct.mono_l : ∀ k, (∀ y0 y1 y2 y3, LeO (spec_leProduct.l0 k y0 y1 y2 y3) (spec_leProduct.l0 (k + 1) y0 y1 y2 y3))
 | 0 => fun _ _ _ _ r h => by simp [spec_leProduct.l0] at h
 | k + 1 => by
  have ih0 := spec_leProduct.mono_l k
  intro y0 y1 y2 y3
  unfold spec_leProduct.l0
  repeat' first
  | (with_reducible exact ih0 _ _ _ _)
  | (with_reducible exact spec_leList.mono _ _)
  | (with_reducible exact LeO.refl _)
  | (with_reducible exact LeO.none _)
  | (with_reducible refine LeO.ite ?_ ?_)
  | (with_reducible refine LeO.bind ?_ (fun _ => ?_))
  | exact LeO.none _
  | refine LeO.ite ?_ ?_
  | refine LeO.bind ?_ (fun _ => ?_)
theorem spec_leProduct.mono : ∀ a0 k, LeO (spec_leProduct.f k a0) (spec_leProduct.f (k + 1) a0) := by
 intro a0 k
 have ih0 := spec_leProduct.mono_l k
 unfold spec_leProduct.f
 repeat' first
  | (with_reducible exact ih0 _ _ _ _)
  | (with_reducible exact spec_leList.mono _ _)
  | (with_reducible exact LeO.refl _)
  | (with_reducible exact LeO.none _)
  | (with_reducible refine LeO.ite ?_ ?_)
  | (with_reducible refine LeO.bind ?_ (fun _ => ?_))
  | exact LeO.none _
  | refine LeO.ite ?_ ?_
  | refine LeO.bind ?_ (fun _ => ?_)
set_option maxHeartbeats 8000000 in
set_option maxRecDepth 100000 in
theorem spec_leProduct.calls (k : Nat) (a0 : Int) (r : Int) (w : World) (h : spec_leProduct.f k a0 = some r) :
 Calls Tryz.prog 48 #[.int .i64 a0] w fun e w' => e = .returned (.int .i64 r) ∧ Below w.heap.size w w' := by
 have HB := Aside0.mk (Below.refl w.heap.size w)
 unfold spec_leProduct.f at h
 have H := h
 clear h
 replace H := bd_ H; obtain ⟨t257, A2, H⟩ := H
 have H' := Aside0.mk H
 clear H
 go_enter Tryz.func48, Tryz.ntmps48
 go_wp2_with (first | ((with_reducible refine gc_ 40 rfl ?_); refine gL_ 7 Tryz.func40 #[.int .i64 a0] ?_; (with_reducible refine (spec_leList.calls k a0 t257 _ A2.out).mono ?_); rintro e w3 ⟨v258, rfl, ho0, hb⟩; refine ⟨_, rfl, ?_⟩; have HO259 := Aside0.mk (Kd.R_lower ho0 (below_size zB_)); replace HB := Aside0.mk (below_step zB_ hb); (try clear hb); (try clear ho0); obtain ⟨Ao4, co4, eo4⟩ := Kd.R_slice HO259.out; subst eo4))
 go_loopg [3, 9] k (fun kq v3 v9 w' => ∃ (x3_1 : Int) (x9_1 : Int), v3 = .int .i64 x3_1 ∧ v9 = .int .i64 x9_1 ∧ Aside0 (spec_leProduct.l0 kq x3_1 t257 (t257.length : Int) x9_1 = some r) ∧ Aside0 (kq ≤ k) ∧ Aside0 (Kd.R (Kd.int .i64) 3 w' w.heap.size (fun _ => True) (.slice Ao4 t257.length co4) t257) ∧ Aside0 (Below w.heap.size w w'))
 case atStart => exact ⟨(1), (0), zV_, zV_, H', ⟨Nat.le_refl _⟩, ⟨by (with_reducible repeat (first | apply Kd.R_alloc | apply Kd.R_drewN | apply Kd.R_drew)); exact HO259.out⟩, ⟨zB_⟩⟩
 case round =>
  clear H'
  (try clear p2);(try clear c4)
  obtain ⟨x3_1, x9_1, rfl, rfl, HA, HK1, HO_7, HB⟩ := hrel
  cases gk with
  | zero => exact absurd HA.out (by simp [spec_leProduct.l0])
  | succ k1 =>
   have H := HA.out
   clear HA
   simp only [spec_leProduct.l0] at H
   by_cases c5 : x9_1 < (t257.length : Int)
   · rw [if_pos c5] at H
     have c5b0 := decide_eq_true c5
     clear c5
     replace H := gd_ H; obtain ⟨c6, H⟩ := H
     have c6b0 : decide (0 ≤ x9_1) = true := decide_eq_true c6
     clear c6
     replace H := gd_ H; obtain ⟨c7, H⟩ := H
     have c7b0 : decide (x9_1 < (t257.length : Int)) = true := decide_eq_true c7
     clear c7
     have H' := Aside0.mk H
     clear H
     have p260 : 0 ≤ (x9_1 : Int) := of_decide_eq_true zS_
     have q260 : x9_1 < (t257.length : Int) := of_decide_eq_true zS_
     obtain ⟨ad260, e260, hx260_0⟩ := Kd.at_int (Kd.R_reads' HO_7.out).2.2 x9_1 p260 q260
     cases e260
     replace p260 := eq_true p260
     replace q260 := eq_true q260
     go_wp2
     go_roundg k1
     case measure => have := HK1.out; omega
     case rel => exact ⟨(wrap64 (x3_1 * (rd t257 x9_1))), (wrap64 (x9_1 + 1)), zV_, zV_, H', ⟨by have := HK1.out; omega⟩, ⟨by (with_reducible repeat (first | apply Kd.R_alloc | apply Kd.R_drewN | apply Kd.R_drew)); exact HO_7.out⟩, ⟨zB_⟩⟩
   rw [if_neg c5] at H
   have c5b0 := decide_eq_false c5
   clear c5
   obtain rfl := Option.some.inj H
   go_wp2
   go_ret
   exact ⟨zR_, zB_⟩

/-! ### spec_ProductOfDigits: function 15 -/
def spec_ProductOfDigits.f (k : Nat) (a0 : Int) : Option (Int × Bool) := (spec_leNumber.f a0).bind fun t261 => (if t261 = true then ((spec_leProduct.f k a0).bind fun t262 => (some (t262, true))) else (some (0, false)))
theorem spec_ProductOfDigits.mono : ∀ a0 k, LeO (spec_ProductOfDigits.f k a0) (spec_ProductOfDigits.f (k + 1) a0) := by
 intro a0 k
 unfold spec_ProductOfDigits.f
 repeat' first
  | (with_reducible exact spec_leProduct.mono _ _)
  | (with_reducible exact LeO.refl _)
  | (with_reducible exact LeO.none _)
  | (with_reducible refine LeO.ite ?_ ?_)
  | (with_reducible refine LeO.bind ?_ (fun _ => ?_))
  | exact LeO.none _
  | refine LeO.ite ?_ ?_
  | refine LeO.bind ?_ (fun _ => ?_)
set_option maxHeartbeats 8000000 in
set_option maxRecDepth 100000 in
theorem spec_ProductOfDigits.calls (k : Nat) (a0 : Int) (r1 : Int) (r2 : Bool) (w : World) (h : spec_ProductOfDigits.f k a0 = some (r1, r2)) :
 Calls Tryz.prog 15 #[.int .i64 a0] w fun e w' => e = .returned (.tuple #[.int .i64 r1, .bool r2]) ∧ Below w.heap.size w w' := by
 have HB := Aside0.mk (Below.refl w.heap.size w)
 unfold spec_ProductOfDigits.f at h
 have H := h
 clear h
 replace H := bd_ H; obtain ⟨t261, A2, H⟩ := H
 by_cases c3 : t261 = true
 · subst c3
   rw [if_pos rfl] at H
   replace H := bd_ H; obtain ⟨t262, A4, H⟩ := H
   simp only [Option.some.injEq, Prod.mk.injEq] at H
   obtain ⟨rfl, rfl⟩ := H
   go_enter Tryz.func15, Tryz.ntmps15
   go_wp2_with (first | ((with_reducible refine gc_ 38 rfl ?_); refine gL_ 5 Tryz.func38 #[.int .i64 a0] ?_; (with_reducible refine (spec_leNumber.calls a0 true _ A2.out).mono ?_); rintro e w' ⟨rfl, ⟨nd, rfl⟩⟩; refine ⟨_, rfl, ?_⟩) | ((with_reducible refine gc_ 48 rfl ?_); refine gL_ 8 Tryz.func48 #[.int .i64 a0] ?_; (with_reducible refine (spec_leProduct.calls k a0 t262 _ A4.out).mono ?_); rintro e w5 ⟨rfl, hb⟩; refine ⟨_, rfl, ?_⟩; replace HB := Aside0.mk (below_step zB_ hb); (try clear hb)))
   go_ret2
   exact ⟨zR_, zB_⟩
 replace H := bf_ c3 H; obtain ⟨rfl, H⟩ := H
 simp only [Option.some.injEq, Prod.mk.injEq] at H
 obtain ⟨rfl, rfl⟩ := H
 go_enter Tryz.func15, Tryz.ntmps15
 go_wp2_with (first | ((with_reducible refine gc_ 38 rfl ?_); refine gL_ 5 Tryz.func38 #[.int .i64 a0] ?_; (with_reducible refine (spec_leNumber.calls a0 false _ A2.out).mono ?_); rintro e w' ⟨rfl, ⟨nd, rfl⟩⟩; refine ⟨_, rfl, ?_⟩))
 go_ret2
 exact ⟨zR_, zB_⟩

/-! ### impl_untilOne: function 75 -/
def impl_untilOne.go (f : Int → Option Int) : Nat → Int → Int → Option (Int × Int)
 | 0, _, _ => none
 | c + 1, n, t => if n > 9 then (f n).bind fun m => impl_untilOne.go f c m (wrap64 (t + 1)) else some (n, t)
theorem impl_untilOne.go_mono {f f' : Int → Option Int} (hf : ∀ x, LeO (f x) (f' x)) : ∀ c n t, LeO (impl_untilOne.go f c n t) (impl_untilOne.go f' (c + 1) n t)
 | 0, _, _ => fun r h => by simp [impl_untilOne.go] at h
 | c + 1, n, t => by
  unfold impl_untilOne.go
  exact LeO.ite (LeO.bind (hf _) (fun m => impl_untilOne.go_mono hf c _ _)) (LeO.refl _)
set_option maxHeartbeats 8000000 in
set_option maxRecDepth 100000 in
theorem impl_untilOne.calls (f : Int → Option Int) (k : Nat) (g : FuncId) (fn : Func) (lb : Array Value) (n : Int) (r : Int × Int) (w : World)
 (hf : Tryz.prog.funcs[g]? = some fn) (hname : (fn.name == "runtime.NumGoroutine") = false) (hb : fn.body.isSome = true)
 (hp : ∀ x t W, f x = some t → Below w.heap.size w W → Calls Tryz.prog g (#[.int .i64 x] ++ lb) W fun e W' => e = .returned (.int .i64 t) ∧ Below W.heap.size W W')
 (h : impl_untilOne.go f k n 0 = some r) :
 Calls Tryz.prog 75 #[.int .i64 n, .func (.func g) #[] lb] w fun e w' => e = .returned (.tuple #[.int .i64 r.1, .int .i64 r.2]) ∧ Below w.heap.size w w' := by
 have HP := Aside0.mk hp
 have HF := Aside0.mk hf
 have HN := Aside0.mk hname
 have HBD := Aside0.mk hb
 have H' := Aside0.mk h
 have HB := Aside0.mk (Below.refl w.heap.size w)
 clear hp hf hname hb h
 go_enter Tryz.func75, Tryz.ntmps75
 go_wp2
 go_loopg [0, 6] k (fun kq v0 v6 w' => ∃ n t : Int, v0 = .int .i64 n ∧ v6 = .int .i64 t ∧ Aside0 (impl_untilOne.go f kq n t = some r) ∧ Aside0 (Below w.heap.size w w'))
 case atStart => exact ⟨n, 0, rfl, rfl, H', HB⟩
 case round =>
  clear H' HB
  obtain ⟨n, t, rfl, rfl, HA, HB⟩ := hrel
  have h := HA.out
  clear HA
  cases gk with
  | zero => simp [impl_untilOne.go] at h
  | succ c =>
   unfold impl_untilOne.go at h
   by_cases cc : n > 9
   · rw [if_pos cc] at h
     have c1 : decide (9 < n) = true := decide_eq_true cc
     clear cc
     obtain ⟨m, hm, h⟩ := Option.bind_eq_some_iff.mp h
     have HT := Aside0.mk hm
     have HA2 := Aside0.mk h
     clear h hm
     go_wp2_with (first | ((with_reducible refine gate_dst (N := 11) rfl ?_); refine Fn.goesF_ (some 11) rfl rfl HF.out HN.out HBD.out #[.int .i64 n] rfl (by rfl) (by (try simp only [List.map_toArray, List.map_cons, List.map_nil]); rfl) ?_; (with_reducible refine (HP.out n m _ HT.out HB.out).mono ?_); rintro e w11 ⟨rfl, hb⟩; refine ⟨_, rfl, ?_⟩; have HB2 := Aside0.mk (below_step HB.out hb); clear hb))
     go_roundg c
     case measure => omega
     case rel => exact ⟨m, wrap64 (t + 1), rfl, rfl, HA2, HB2⟩
   rw [if_neg cc] at h
   have c1 : decide (9 < n) = false := decide_eq_false cc
   have hr : (n, t) = r := Option.some.inj h
   subst hr
   clear cc h
   go_wp2
   first | go_ret2 | go_ret3 | go_ret
   exact ⟨rfl, HB.out⟩

/-! ### impl_ProductEnd: function 49 -/
-- behind 75 74 73
def impl_ProductEnd.f (k : Nat) (a0 : Int) : Option (Int × Int × Bool) := (impl_isWritten.f a0).bind fun t => (if t = true then ((impl_untilOne.go (fun x => impl_digitProduct.f k x) k a0 0).bind fun r => some (r.1, r.2, true)) else some (0, 0, false))
theorem impl_ProductEnd.mono : ∀ a0 k, LeO (impl_ProductEnd.f k a0) (impl_ProductEnd.f (k + 1) a0) := by
 intro a0 k
 unfold impl_ProductEnd.f
 exact LeO.bind (LeO.refl _) (fun _ => LeO.ite (LeO.bind (impl_untilOne.go_mono (fun x => impl_digitProduct.mono _ _) _ _ _) (fun _ => LeO.refl _)) (LeO.refl _))
set_option maxHeartbeats 8000000 in
set_option maxRecDepth 100000 in
theorem impl_ProductEnd.calls (k : Nat) (a0 : Int) (r1 : Int) (r2 : Int) (r3 : Bool) (w : World) (hT : Shelf.TabOk w) (h : impl_ProductEnd.f k a0 = some (r1, r2, r3)) :
 Calls Tryz.prog 49 #[.int .i64 a0] w fun e w' => e = .returned (.tuple #[.int .i64 r1, .int .i64 r2, .bool r3]) ∧ Below w.heap.size w w' := by
 have HT := Aside0.mk hT
 clear hT
 have HB := Aside0.mk (Below.refl w.heap.size w)
 unfold impl_ProductEnd.f at h
 obtain ⟨t, ht, h⟩ := Option.bind_eq_some_iff.mp h
 have A1 := Aside0.mk ht
 clear ht
 cases t with
 | false =>
  rw [if_neg (by decide)] at h
  simp only [Option.some.injEq, Prod.mk.injEq] at h
  obtain ⟨rfl, rfl, rfl⟩ := h
  go_enter Tryz.func49, Tryz.ntmps49
  go_wp2_with (first | (go_at_call 73; (with_reducible refine (impl_isWritten.calls a0 false _ A1.out).mono ?_); rintro e w' ⟨rfl, ⟨nd, rfl⟩⟩))
  first | go_ret3 | go_ret2 | go_ret
  exact ⟨rfl, by repeat (first | exact Below.refl _ _ | apply pw_below_drewN | apply below_drew1)⟩
 | true =>
  rw [if_pos rfl] at h
  obtain ⟨z, hz, h⟩ := Option.bind_eq_some_iff.mp h
  simp only [Option.some.injEq, Prod.mk.injEq] at h
  obtain ⟨rfl, rfl, rfl⟩ := h
  have A2 := Aside0.mk hz
  clear hz
  go_enter Tryz.func49, Tryz.ntmps49
  go_wp2_with (first | (go_at_call 73; (with_reducible refine (impl_isWritten.calls a0 true _ A1.out).mono ?_); rintro e w' ⟨rfl, ⟨nd, rfl⟩⟩; have HB1 := Aside0.mk (pw_below_drewN (Below.refl w.heap.size w) nd : Below w.heap.size w (w.drewN nd)); generalize w.drewN nd = w1 at HB1 ⊢) | (go_at_call 75; (refine (impl_untilOne.calls (fun x => impl_digitProduct.f k x) k 74 _ #[] a0 z _ Tryz.func74 (by kernel_rfl) rfl (fun x t W hx hB => impl_digitProduct.calls k x t W (Shelf.TabOk.below (Shelf.TabOk.below HT.out HB1.out) (by first | exact hB | exact (Below.trans (by repeat (first | exact Below.refl _ _ | apply pw_below_drewN | apply below_drew1)) hB))) hx) A2.out).mono ?_); rintro e w2 ⟨rfl, hb⟩; have HB2 := Aside0.mk (below_step HB1.out (by first | exact hb | exact below_step (by repeat (first | exact Below.refl _ _ | apply pw_below_drewN | apply below_drew1)) hb)); clear hb))
  first | go_ret3 | go_ret2 | go_ret
  exact ⟨rfl, HB2.out⟩

end Go.Proofs.YtjnfaidngaobmaaGreatDoor.PFnLeastOfDigits

-- Laid by this session's program gprint.py over the kit's print.
import Derived.Test.YtjnfaidngaobmaaGreatDoorZip
import Derived.Test.YtjnfaidngaobmaaGreatDoorPFnLeastOfDigitsx0
import Derived.Test.YtjnfaidngaobmaaGreatDoorPFnLeastOfDigitsx1
import Derived.Test.YtjnfaidngaobmaaGreatDoorPFnLeastOfDigitsx2
import Derived.Test.YtjnfaidngaobmaaGreatDoorPFnLeastOfDigitsx6
import Derived.Test.YtjnfaidngaobmaaGreatDoorPFnLeastOfDigitsx7
import Derived.Test.YtjnfaidngaobmaaGreatDoorPFnLeastOfDigitsx8
import Derived.Test.YtjnfaidngaobmaaGreatDoorPFnLeastOfDigitsx9
import Derived.Test.YtjnfaidngaobmaaGreatDoorPFnLeastOfDigitsx10
namespace Go.Proofs.YtjnfaidngaobmaaGreatDoor.PFnLeastOfDigits
open Go.RowKit Go.Proofs.YtjnfaidngaobmaaGreatDoorW.PrintWords Go.Proofs.YtjnfaidngaobmaaGreatDoorW.PrintLast Go.Proofs.YtjnfaidngaobmaaGreatDoorW.PrintMore
attribute [local go_sem] max2_int min2_int max_two min_two max_three min_three max_four min_four   -- for this text's walks alone
set_option linter.unusedVariables false
set_option linter.unusedSimpArgs false
theorem z11_0_ {p : Prop} (h : p := by (try simp only [List.map_toArray, List.map_cons, List.map_nil]); first | done | rfl | (simp only [List.length_drop, List.length_take]; rfl)) : p := h

/-! ### spec_DigitsForMultiple: function 27 -/
def spec_DigitsForMultiple.l0 : Nat → Int → Int → Option (ByteArray × Bool)
 | 0, _, _ => none
 | k + 1, x0, x4 => if x4 < 10 then ((spec_l1Num.f k x4).bind fun t375 => ((spec_leMultiple.f k x0 t375).bind fun bt376 => (if bt376.2 = true then ((spec_l1Num.f k x4).bind fun t378 => (some (t378, true))) else (spec_DigitsForMultiple.l0 k x0 (wrap64 (x4 + 1)))))) else (some ((⟨#[48, 49]⟩ : ByteArray), true))
def spec_DigitsForMultiple.f (k : Nat) (a0 : Int) : Option (ByteArray × Bool) := (spec_leDivisor.f a0).bind fun t374 => (if t374 = true then (spec_DigitsForMultiple.l0 k a0 1) else (some ((⟨#[]⟩ : ByteArray), false)))
theorem spec_DigitsForMultiple.mono_l : ∀ k, (∀ y0 y1, LeO (spec_DigitsForMultiple.l0 k y0 y1) (spec_DigitsForMultiple.l0 (k + 1) y0 y1))
 | 0 => fun _ _ r h => by simp [spec_DigitsForMultiple.l0] at h
 | k + 1 => by
  have ih0 := spec_DigitsForMultiple.mono_l k
  intro y0 y1
  unfold spec_DigitsForMultiple.l0
  repeat' first
  | (with_reducible exact ih0 _ _)
  | (with_reducible exact spec_l1Num.mono _ _)
  | (with_reducible exact spec_leMultiple.mono _ _ _)
  | (with_reducible exact LeO.refl _)
  | (with_reducible exact LeO.none _)
  | (with_reducible refine LeO.ite ?_ ?_)
  | (with_reducible refine LeO.bind ?_ (fun _ => ?_))
  | exact LeO.none _
  | refine LeO.ite ?_ ?_
  | refine LeO.bind ?_ (fun _ => ?_)
theorem spec_DigitsForMultiple.mono : ∀ a0 k, LeO (spec_DigitsForMultiple.f k a0) (spec_DigitsForMultiple.f (k + 1) a0) := by
 intro a0 k
 have ih0 := spec_DigitsForMultiple.mono_l k
 unfold spec_DigitsForMultiple.f
 repeat' first
  | (with_reducible exact ih0 _ _)
  | (with_reducible exact spec_l1Num.mono _ _)
  | (with_reducible exact spec_leMultiple.mono _ _ _)
  | (with_reducible exact LeO.refl _)
  | (with_reducible exact LeO.none _)
  | (with_reducible refine LeO.ite ?_ ?_)
  | (with_reducible refine LeO.bind ?_ (fun _ => ?_))
  | exact LeO.none _
  | refine LeO.ite ?_ ?_
  | refine LeO.bind ?_ (fun _ => ?_)
set_option maxHeartbeats 8000000 in
set_option maxRecDepth 100000 in
theorem spec_DigitsForMultiple.calls (k : Nat) (a0 : Int) (r1 : ByteArray) (r2 : Bool) (w : World) (h : spec_DigitsForMultiple.f k a0 = some (r1, r2)) :
 Calls Tryz.prog 27 #[.int .i64 a0] w fun e w' => e = .returned (.tuple #[.string r1, .bool r2]) ∧ Below w.heap.size w w' := by
 have HB := Aside0.mk (Below.refl w.heap.size w)
 unfold spec_DigitsForMultiple.f at h
 have H := h
 clear h
 replace H := bd_ H; obtain ⟨t374, A2, H⟩ := H
 by_cases c3 : t374 = true
 · subst c3
   rw [if_pos rfl] at H
   have H' := Aside0.mk H
   clear H
   go_enter Tryz.func27, Tryz.ntmps27
   go_wp2_with (first | ((with_reducible refine gc_ 62 rfl ?_); refine gL_ 8 Tryz.func62 #[.int .i64 a0] ?_; (with_reducible refine (spec_leDivisor.calls a0 true _ A2.out).mono ?_); rintro e w' ⟨rfl, ⟨nd, rfl⟩⟩; refine ⟨_, rfl, ?_⟩))
   go_loopg [4] k (fun kq v4 w' => ∃ (x4_1 : Int), v4 = .int .i64 x4_1 ∧ Aside0 (spec_DigitsForMultiple.l0 kq a0 x4_1 = some (r1, r2)) ∧ Aside0 (kq ≤ k) ∧ Aside0 (Below w.heap.size w w'))
   case atStart => exact ⟨(1), zV_, H', ⟨Nat.le_refl _⟩, ⟨zB_⟩⟩
   case round =>
    clear H'
    (try clear c2);(try clear p2);(try clear c3)
    obtain ⟨x4_1, rfl, HA, HK1, HB⟩ := hrel
    cases gk with
    | zero => exact absurd HA.out (by simp [spec_DigitsForMultiple.l0])
    | succ k1 =>
     have H := HA.out
     clear HA
     simp only [spec_DigitsForMultiple.l0] at H
     by_cases c4 : x4_1 < 10
     · rw [if_pos c4] at H
       have c4b0 := decide_eq_true c4
       clear c4
       replace H := bd_ H; obtain ⟨t375, A5, H⟩ := H
       replace H := bd_ H; obtain ⟨⟨t376, t377⟩, A6, H⟩ := H
       dsimp only at H
       by_cases c7 : t377 = true
       · subst c7
         rw [if_pos rfl] at H
         replace H := bd_ H; obtain ⟨t378, A8, H⟩ := H
         simp only [Option.some.injEq, Prod.mk.injEq] at H
         obtain ⟨rfl, rfl⟩ := H
         go_wp2_with (first | ((with_reducible refine gc_ 65 rfl ?_); refine gL_ 17 Tryz.func65 #[.int .i64 x4_1] ?_; (with_reducible refine (spec_l1Num.calls k1 x4_1 t375 _ A5.out).mono ?_); rintro e w9 ⟨rfl, hb⟩; refine ⟨_, rfl, ?_⟩; replace HB := Aside0.mk (below_step zB_ hb); (try clear hb)) | ((with_reducible refine gc_ 64 rfl ?_); refine gL_ 18 Tryz.func64 #[.int .i64 a0, .string t375] ?_; (with_reducible refine (spec_leMultiple.calls k1 a0 t375 t376 true _ A6.out).mono ?_); rintro e w10 ⟨rfl, hb⟩; refine ⟨_, rfl, ?_⟩; replace HB := Aside0.mk (below_step zB_ hb); (try clear hb)) | ((with_reducible refine gc_ 65 rfl ?_); refine gL_ 23 Tryz.func65 #[.int .i64 x4_1] ?_; (with_reducible refine (spec_l1Num.calls k1 x4_1 t378 _ A8.out).mono ?_); rintro e w11 ⟨rfl, hb⟩; refine ⟨_, rfl, ?_⟩; replace HB := Aside0.mk (below_step zB_ hb); (try clear hb)))
         go_ret2
         exact ⟨zR_, zB_⟩
       replace H := bf_ c7 H; obtain ⟨rfl, H⟩ := H
       have H' := Aside0.mk H
       clear H
       go_wp2_with (first | ((with_reducible refine gc_ 65 rfl ?_); refine gL_ 17 Tryz.func65 #[.int .i64 x4_1] ?_; (with_reducible refine (spec_l1Num.calls k1 x4_1 t375 _ A5.out).mono ?_); rintro e w12 ⟨rfl, hb⟩; refine ⟨_, rfl, ?_⟩; replace HB := Aside0.mk (below_step zB_ hb); (try clear hb)) | ((with_reducible refine gc_ 64 rfl ?_); refine gL_ 18 Tryz.func64 #[.int .i64 a0, .string t375] ?_; (with_reducible refine (spec_leMultiple.calls k1 a0 t375 t376 false _ A6.out).mono ?_); rintro e w13 ⟨rfl, hb⟩; refine ⟨_, rfl, ?_⟩; replace HB := Aside0.mk (below_step zB_ hb); (try clear hb)))
       go_roundg k1
       case measure => have := HK1.out; omega
       case rel => exact ⟨(wrap64 (x4_1 + 1)), zV_, H', ⟨by have := HK1.out; omega⟩, ⟨zB_⟩⟩
     rw [if_neg c4] at H
     have c4b0 := decide_eq_false c4
     clear c4
     simp only [Option.some.injEq, Prod.mk.injEq] at H
     obtain ⟨rfl, rfl⟩ := H
     go_wp2
     go_ret2
     exact ⟨zR_, zB_⟩
 replace H := bf_ c3 H; obtain ⟨rfl, H⟩ := H
 simp only [Option.some.injEq, Prod.mk.injEq] at H
 obtain ⟨rfl, rfl⟩ := H
 go_enter Tryz.func27, Tryz.ntmps27
 go_wp2_with (first | ((with_reducible refine gc_ 62 rfl ?_); refine gL_ 8 Tryz.func62 #[.int .i64 a0] ?_; (with_reducible refine (spec_leDivisor.calls a0 false _ A2.out).mono ?_); rintro e w' ⟨rfl, ⟨nd, rfl⟩⟩; refine ⟨_, rfl, ?_⟩))
 go_ret2
 exact ⟨zR_, zB_⟩

/-! ### impl_OnesFor: function 28 -/
def impl_OnesFor.f (k : Nat) (a0 : Int) : Option (Int × Bool) := (impl_LeastMultiple.f k a0 (⟨#[49]⟩ : ByteArray)).bind fun bt379 => (some ((bt379.1.size : Int), bt379.2))
theorem impl_OnesFor.mono : ∀ a0 k, LeO (impl_OnesFor.f k a0) (impl_OnesFor.f (k + 1) a0) := by
 intro a0 k
 unfold impl_OnesFor.f
 repeat' first
  | (with_reducible exact impl_LeastMultiple.mono _ _ _)
  | (with_reducible exact LeO.refl _)
  | (with_reducible exact LeO.none _)
  | (with_reducible refine LeO.ite ?_ ?_)
  | (with_reducible refine LeO.bind ?_ (fun _ => ?_))
  | exact LeO.none _
  | refine LeO.ite ?_ ?_
  | refine LeO.bind ?_ (fun _ => ?_)
set_option maxHeartbeats 8000000 in
set_option maxRecDepth 100000 in
theorem impl_OnesFor.calls (k : Nat) (a0 : Int) (r1 : Int) (r2 : Bool) (w : World) (h : impl_OnesFor.f k a0 = some (r1, r2)) :
 Calls Tryz.prog 28 #[.int .i64 a0] w fun e w' => e = .returned (.tuple #[.int .i64 r1, .bool r2]) ∧ Below w.heap.size w w' := by
 have HB := Aside0.mk (Below.refl w.heap.size w)
 unfold impl_OnesFor.f at h
 have H := h
 clear h
 replace H := bd_ H; obtain ⟨⟨t379, t380⟩, A2, H⟩ := H
 dsimp only at H
 simp only [Option.some.injEq, Prod.mk.injEq] at H
 obtain ⟨rfl, rfl⟩ := H
 go_enter Tryz.func28, Tryz.ntmps28
 go_wp2_with (first | ((with_reducible refine gc_ 23 rfl ?_); refine gL_ 8 Tryz.func23 #[.int .i64 a0, .string (⟨#[49]⟩ : ByteArray)] ?_; (with_reducible refine (impl_LeastMultiple.calls k a0 (⟨#[49]⟩ : ByteArray) t379 t380 _ A2.out).mono ?_); rintro e w3 ⟨rfl, hb⟩; refine ⟨_, rfl, ?_⟩; replace HB := Aside0.mk (below_step zB_ hb); (try clear hb)))
 go_ret2
 exact ⟨zR_, zB_⟩

/-! ### spec_OnesFor: function 29 -/
def spec_OnesFor.f (k : Nat) (a0 : Int) : Option (Int × Bool) := (spec_leDivisor.f a0).bind fun t381 => (if t381 = true then ((spec_leMultiple.f k a0 (⟨#[49]⟩ : ByteArray)).bind fun bt382 => (some ((bt382.1.size : Int), bt382.2))) else (some (0, false)))
theorem spec_OnesFor.mono : ∀ a0 k, LeO (spec_OnesFor.f k a0) (spec_OnesFor.f (k + 1) a0) := by
 intro a0 k
 unfold spec_OnesFor.f
 repeat' first
  | (with_reducible exact spec_leMultiple.mono _ _ _)
  | (with_reducible exact LeO.refl _)
  | (with_reducible exact LeO.none _)
  | (with_reducible refine LeO.ite ?_ ?_)
  | (with_reducible refine LeO.bind ?_ (fun _ => ?_))
  | exact LeO.none _
  | refine LeO.ite ?_ ?_
  | refine LeO.bind ?_ (fun _ => ?_)
set_option maxHeartbeats 8000000 in
set_option maxRecDepth 100000 in
theorem spec_OnesFor.calls (k : Nat) (a0 : Int) (r1 : Int) (r2 : Bool) (w : World) (h : spec_OnesFor.f k a0 = some (r1, r2)) :
 Calls Tryz.prog 29 #[.int .i64 a0] w fun e w' => e = .returned (.tuple #[.int .i64 r1, .bool r2]) ∧ Below w.heap.size w w' := by
 have HB := Aside0.mk (Below.refl w.heap.size w)
 unfold spec_OnesFor.f at h
 have H := h
 clear h
 replace H := bd_ H; obtain ⟨t381, A2, H⟩ := H
 by_cases c3 : t381 = true
 · subst c3
   rw [if_pos rfl] at H
   replace H := bd_ H; obtain ⟨⟨t382, t383⟩, A4, H⟩ := H
   dsimp only at H
   simp only [Option.some.injEq, Prod.mk.injEq] at H
   obtain ⟨rfl, rfl⟩ := H
   go_enter Tryz.func29, Tryz.ntmps29
   go_wp2_with (first | ((with_reducible refine gc_ 62 rfl ?_); refine gL_ 7 Tryz.func62 #[.int .i64 a0] ?_; (with_reducible refine (spec_leDivisor.calls a0 true _ A2.out).mono ?_); rintro e w' ⟨rfl, ⟨nd, rfl⟩⟩; refine ⟨_, rfl, ?_⟩) | ((with_reducible refine gc_ 64 rfl ?_); refine gL_ 11 Tryz.func64 #[.int .i64 a0, .string (⟨#[49]⟩ : ByteArray)] ?_; (with_reducible refine (spec_leMultiple.calls k a0 (⟨#[49]⟩ : ByteArray) t382 t383 _ A4.out).mono ?_); rintro e w5 ⟨rfl, hb⟩; refine ⟨_, rfl, ?_⟩; replace HB := Aside0.mk (below_step zB_ hb); (try clear hb)))
   go_ret2
   exact ⟨zR_, zB_⟩
 replace H := bf_ c3 H; obtain ⟨rfl, H⟩ := H
 simp only [Option.some.injEq, Prod.mk.injEq] at H
 obtain ⟨rfl, rfl⟩ := H
 go_enter Tryz.func29, Tryz.ntmps29
 go_wp2_with (first | ((with_reducible refine gc_ 62 rfl ?_); refine gL_ 7 Tryz.func62 #[.int .i64 a0] ?_; (with_reducible refine (spec_leDivisor.calls a0 false _ A2.out).mono ?_); rintro e w' ⟨rfl, ⟨nd, rfl⟩⟩; refine ⟨_, rfl, ?_⟩))
 go_ret2
 exact ⟨zR_, zB_⟩

/-! ### spec_DrawRestOfOnes: function 30 -/
def spec_DrawRestOfOnes.f (l0 : List Int) : Option (Int × Int) := (spec_l1Cur_one.f l0 0 0 6).bind fun bt385 => (if bt385.1 = true then ((spec_l1Cur_divisor.f l0 bt385.2.1 bt385.2.2).bind fun bt388 => ((spec_l1Cur_among.f l0 bt388.2.1 bt388.2.2 (([(-1), 0, 1, 999999999999, 1000000000000, 1000000000001] : List Int))).bind fun bt394 => (some (bt388.1, bt394.1)))) else ((spec_l1Cur_divisor.f l0 bt385.2.1 bt385.2.2).bind fun bt397 => ((spec_l1Cur_pick.f l0 bt397.2.1 bt397.2.2 40).bind fun bt400 => (some (bt397.1, wrap64 (1 + bt400.1))))))
set_option maxHeartbeats 8000000 in
set_option maxRecDepth 100000 in
theorem spec_DrawRestOfOnes.calls (A0 : Option Addr) (c0 : Nat) (l0 : List Int) (r1 : Int) (r2 : Int) (w : World) (hr0 : Kd.C (Kd.int .u8) w A0 l0.length l0) (hc0 : l0.length ≤ c0) (h : spec_DrawRestOfOnes.f l0 = some (r1, r2)) :
 Calls Tryz.prog 30 #[.slice A0 l0.length c0] w fun e w' => e = .returned (.tuple #[.int .i64 r1, .int .i64 r2]) ∧ Below w.heap.size w w' := by
 have hu55 := Tryz.underlying55
 have HR0 := Aside0.mk hr0
 have HC0 := Aside0.mk hc0
 clear hr0 hc0
 have HB := Aside0.mk (Below.refl w.heap.size w)
 unfold spec_DrawRestOfOnes.f at h
 have H := h
 clear h
 replace H := bd_ H; obtain ⟨⟨t385, t386, t387⟩, A2, H⟩ := H
 dsimp only at H
 by_cases c3 : t385 = true
 · subst c3
   rw [if_pos rfl] at H
   replace H := bd_ H; obtain ⟨⟨t388, t389, t390⟩, A4, H⟩ := H
   dsimp only at H
   obtain ⟨y391, hy391⟩ : ∃ y_ : List Int, y_ = (([(-1), 0, 1, 999999999999, 1000000000000, 1000000000001] : List Int)) := ⟨_, rfl⟩
   replace H : ((spec_l1Cur_among.f l0 t389 t390 y391).bind fun bt394 => (some (t388, bt394.1))) = some (r1, r2) := by first | (rw [hy391]; with_reducible exact H) | (have H2_ := (Option.bind_some _ _).symm.trans H; rw [hy391]; with_reducible exact H2_) | (have H2_ := (Option.bind_some _ _).symm.trans H; with_reducible exact H2_) | with_reducible exact H | (rw [hy391]; exact H) | exact H
   have Ny391 := Aside0.mk hy391
   clear hy391
   replace H := bd_ H; obtain ⟨⟨t394, t395, t396⟩, A5, H⟩ := H
   dsimp only at H
   simp only [Option.some.injEq, Prod.mk.injEq] at H
   obtain ⟨rfl, rfl⟩ := H
   go_enter Tryz.func30, Tryz.ntmps30
   go_wp2_with (first | ((with_reducible refine gate_dst (N := 7) rfl ?_); refine box_event ?hg (N := 7) ?hd (cs := #[.slice A0 l0.length c0, .int .i64 0, .int .u64 0]) (t := 55) ?hr ?_; (case hd => rfl); (case hg => rfl); (case hr => first | (go_simp; done) | (go_simp; rfl)); intro gb384 hg w6 hbox hb; have n0_ := Aside0.mk (below_step zB_ hb); have n1_ := Aside0.mk ((⟨_, _, hbox, (by rw [hg]; exact (below_size zB_) : w.heap.size ≤ gb384), HR0.out⟩ : IsS55 w w6 gb384 l0 0 0)); clear HB; have HB := n0_; have HI384 := n1_; clear n0_ n1_; clear hb hbox hg) | ((with_reducible refine gc_ 50 rfl ?_); refine gL_ 9 Tryz.func50 #[.pointer (some ⟨gb384, 0, none⟩), .int .i64 6] ?_; (with_reducible refine (spec_l1Cur_one.calls gb384 l0 0 0 6 true t386 t387 w _ ?side1 ?side2 A2.out).mono ?_); (case side1 => repeat (first | (with_reducible first | exact HI384.out | apply IsS55.alloc | apply IsS55.drewN | apply IsS55.drew | apply IsS55.set_1 | apply IsS55.set_2) | exact HI384.out)); (case side2 => repeat (first | (with_reducible first | exact HB.out | apply below_alloc | apply pw_below_drewN | apply below_drew1 | refine below_set ?_ (IsS55.ge HI384.out)) | exact HB.out)); rintro e w7 ⟨rfl, hi, hb, hk⟩; refine ⟨_, rfl, ?_⟩; replace HB := Aside0.mk (hb); replace HI384 := Aside0.mk (hi); (try clear hb); (try clear hk); (try clear hi)) | ((with_reducible refine gc_ 57 rfl ?_); refine gL_ 11 Tryz.func57 #[.pointer (some ⟨gb384, 0, none⟩)] ?_; (with_reducible refine (spec_l1Cur_divisor.calls gb384 l0 t386 t387 t388 t389 t390 w _ ?side1 ?side2 A4.out).mono ?_); (case side1 => repeat (first | (with_reducible first | exact HI384.out | apply IsS55.alloc | apply IsS55.drewN | apply IsS55.drew | apply IsS55.set_1 | apply IsS55.set_2) | exact HI384.out)); (case side2 => repeat (first | (with_reducible first | exact HB.out | apply below_alloc | apply pw_below_drewN | apply below_drew1 | refine below_set ?_ (IsS55.ge HI384.out)) | exact HB.out)); rintro e w8 ⟨rfl, hi, hb, hk⟩; refine ⟨_, rfl, ?_⟩; replace HB := Aside0.mk (hb); replace HI384 := Aside0.mk (hi); (try clear hb); (try clear hk); (try clear hi)) | ((with_reducible refine gate_dst (N := 13) rfl ?_); refine Kd.R_lit (Kd.int .i64) _ 3 ?hg (N := 13) ?hd (xs := ([(-1), 0, 1, 999999999999, 1000000000000, 1000000000001] : List Int)) (inner := [.int .i64 (-1), .int .i64 0, .int .i64 1, .int .i64 999999999999, .int .i64 1000000000000, .int .i64 1000000000001]) (ok := fun _ => True) (okp := fun _ => True) ?hr ?hp (fun _ hk => hk) trivial (Below.refl _ _) (Nat.le_refl _) (by simp) ?_; (case hd => rfl); (case hg => rfl); (case hr => first | (go_simp; done) | (go_simp; rfl)); (case hp => exact (Reps.one (show Kd.M (Kd.int .i64) _ _ _ (-1) [.int .i64 (-1)] from rfl) (Reps.one (show Kd.M (Kd.int .i64) _ _ _ 0 [.int .i64 0] from rfl) (Reps.one (show Kd.M (Kd.int .i64) _ _ _ 1 [.int .i64 1] from rfl) (Reps.one (show Kd.M (Kd.int .i64) _ _ _ 999999999999 [.int .i64 999999999999] from rfl) (Reps.one (show Kd.M (Kd.int .i64) _ _ _ 1000000000000 [.int .i64 1000000000000] from rfl) (Reps.one (show Kd.M (Kd.int .i64) _ _ _ 1000000000001 [.int .i64 1000000000001] from rfl) (Reps.none _ _)))))))); intro v392 w9 ho10 hb hg_ hnew_; clear hg_ hnew_; (first | rw [← Ny391.out] at ho10 | (simp only [Int.reduceToNat] at ho10; rw [← Ny391.out] at ho10)); have n0_ := Aside0.mk (Kd.R_lower ho10 (below_size (by repeat (first | (with_reducible first | exact HB.out | apply below_alloc | apply pw_below_drewN | apply below_drew1 | refine below_set ?_ (IsS55.ge HI384.out)) | exact HB.out)))); have n1_ := Aside0.mk (IsS55.below (by repeat (first | (with_reducible first | exact HI384.out | apply IsS55.alloc | apply IsS55.drewN | apply IsS55.drew | apply IsS55.set_1 | apply IsS55.set_2) | exact HI384.out)) hb); have n2_ := Aside0.mk (below_step (by repeat (first | (with_reducible first | exact HB.out | apply below_alloc | apply pw_below_drewN | apply below_drew1 | refine below_set ?_ (IsS55.ge HI384.out)) | exact HB.out)) hb); clear HI384; clear HB; have HO393 := n0_; have HI384 := n1_; have HB := n2_; clear n0_ n1_ n2_; clear hb ho10; obtain ⟨Ao11, co11, eo11⟩ := Kd.R_slice HO393.out; subst eo11) | ((with_reducible refine gc_ 51 rfl ?_); refine gL_ 14 Tryz.func51 #[.pointer (some ⟨gb384, 0, none⟩), .slice Ao11 y391.length co11] ?_; (with_reducible refine (spec_l1Cur_among.calls gb384 l0 t389 t390 _ _ y391 t394 t395 t396 w _ ?side1 ?side2 ?side3 ?side4 ?side5 A5.out).mono ?_); (case side1 => repeat (first | (with_reducible first | exact HI384.out | apply IsS55.alloc | apply IsS55.drewN | apply IsS55.drew | apply IsS55.set_1 | apply IsS55.set_2) | exact HI384.out)); (case side2 => repeat (first | (with_reducible first | exact HB.out | apply below_alloc | apply pw_below_drewN | apply below_drew1 | refine below_set ?_ (IsS55.ge HI384.out)) | exact HB.out)); (case side3 => repeat (first | exact (Kd.R_reads' HO393.out).2.2 | (with_reducible refine Kd.C_alloc ?_ _) | (with_reducible refine Kd.C_drewN ?_ _) | (with_reducible refine Kd.C_drew ?_))); (case side4 => exact (Kd.R_reads' HO393.out).2.1); (case side5 => exact far_slice (IsS55.own_ne HI384.out HO393.out (by decide))); rintro e w12 ⟨rfl, hi, hb, hk⟩; refine ⟨_, rfl, ?_⟩; replace HO393 := Aside0.mk (Kd.R_mono (Kd.R_keep (IsS55.apart (show IsS55 w _ gb384 l0 t389 t390 from by repeat (first | (with_reducible first | exact HI384.out | apply IsS55.alloc | apply IsS55.drewN | apply IsS55.drew | apply IsS55.set_1 | apply IsS55.set_2) | exact HI384.out)) (by (with_reducible repeat (first | apply Kd.R_alloc | apply Kd.R_drewN | apply Kd.R_drew)); exact HO393.out) (by decide)) hk (fun _ h => h.2)) (fun _ h => h.1)); replace HB := Aside0.mk (hb); replace HI384 := Aside0.mk (hi); (try clear hb); (try clear hk); (try clear hi)))
   go_ret2
   exact ⟨zR_, by repeat (first | (with_reducible first | exact HB.out | apply below_alloc | apply pw_below_drewN | apply below_drew1 | refine below_set ?_ (IsS55.ge HI384.out)) | exact HB.out)⟩
 replace H := bf_ c3 H; obtain ⟨rfl, H⟩ := H
 replace H := bd_ H; obtain ⟨⟨t397, t398, t399⟩, A13, H⟩ := H
 dsimp only at H
 replace H := bd_ H; obtain ⟨⟨t400, t401, t402⟩, A14, H⟩ := H
 dsimp only at H
 simp only [Option.some.injEq, Prod.mk.injEq] at H
 obtain ⟨rfl, rfl⟩ := H
 go_enter Tryz.func30, Tryz.ntmps30
 go_wp2_with (first | ((with_reducible refine gate_dst (N := 7) rfl ?_); refine box_event ?hg (N := 7) ?hd (cs := #[.slice A0 l0.length c0, .int .i64 0, .int .u64 0]) (t := 55) ?hr ?_; (case hd => rfl); (case hg => rfl); (case hr => first | (go_simp; done) | (go_simp; rfl)); intro gb384 hg w15 hbox hb; have n0_ := Aside0.mk (below_step zB_ hb); have n1_ := Aside0.mk ((⟨_, _, hbox, (by rw [hg]; exact (below_size zB_) : w.heap.size ≤ gb384), HR0.out⟩ : IsS55 w w15 gb384 l0 0 0)); clear HB; have HB := n0_; have HI384 := n1_; clear n0_ n1_; clear hb hbox hg) | ((with_reducible refine gc_ 50 rfl ?_); refine gL_ 9 Tryz.func50 #[.pointer (some ⟨gb384, 0, none⟩), .int .i64 6] ?_; (with_reducible refine (spec_l1Cur_one.calls gb384 l0 0 0 6 false t386 t387 w _ ?side1 ?side2 A2.out).mono ?_); (case side1 => repeat (first | (with_reducible first | exact HI384.out | apply IsS55.alloc | apply IsS55.drewN | apply IsS55.drew | apply IsS55.set_1 | apply IsS55.set_2) | exact HI384.out)); (case side2 => repeat (first | (with_reducible first | exact HB.out | apply below_alloc | apply pw_below_drewN | apply below_drew1 | refine below_set ?_ (IsS55.ge HI384.out)) | exact HB.out)); rintro e w16 ⟨rfl, hi, hb, hk⟩; refine ⟨_, rfl, ?_⟩; replace HB := Aside0.mk (hb); replace HI384 := Aside0.mk (hi); (try clear hb); (try clear hk); (try clear hi)) | ((with_reducible refine gc_ 57 rfl ?_); refine gL_ 16 Tryz.func57 #[.pointer (some ⟨gb384, 0, none⟩)] ?_; (with_reducible refine (spec_l1Cur_divisor.calls gb384 l0 t386 t387 t397 t398 t399 w _ ?side1 ?side2 A13.out).mono ?_); (case side1 => repeat (first | (with_reducible first | exact HI384.out | apply IsS55.alloc | apply IsS55.drewN | apply IsS55.drew | apply IsS55.set_1 | apply IsS55.set_2) | exact HI384.out)); (case side2 => repeat (first | (with_reducible first | exact HB.out | apply below_alloc | apply pw_below_drewN | apply below_drew1 | refine below_set ?_ (IsS55.ge HI384.out)) | exact HB.out)); rintro e w17 ⟨rfl, hi, hb, hk⟩; refine ⟨_, rfl, ?_⟩; replace HB := Aside0.mk (hb); replace HI384 := Aside0.mk (hi); (try clear hb); (try clear hk); (try clear hi)) | ((with_reducible refine gc_ 52 rfl ?_); refine gL_ 18 Tryz.func52 #[.pointer (some ⟨gb384, 0, none⟩), .int .i64 40] ?_; (with_reducible refine (spec_l1Cur_pick.calls gb384 l0 t398 t399 40 t400 t401 t402 w _ ?side1 ?side2 A14.out).mono ?_); (case side1 => repeat (first | (with_reducible first | exact HI384.out | apply IsS55.alloc | apply IsS55.drewN | apply IsS55.drew | apply IsS55.set_1 | apply IsS55.set_2) | exact HI384.out)); (case side2 => repeat (first | (with_reducible first | exact HB.out | apply below_alloc | apply pw_below_drewN | apply below_drew1 | refine below_set ?_ (IsS55.ge HI384.out)) | exact HB.out)); rintro e w18 ⟨rfl, hi, hb, hk⟩; refine ⟨_, rfl, ?_⟩; replace HB := Aside0.mk (hb); replace HI384 := Aside0.mk (hi); (try clear hb); (try clear hk); (try clear hi)))
 go_ret2
 exact ⟨zR_, by repeat (first | (with_reducible first | exact HB.out | apply below_alloc | apply pw_below_drewN | apply below_drew1 | refine below_set ?_ (IsS55.ge HI384.out)) | exact HB.out)⟩

/-! ### impl_RestOfOnes: function 31 -/
mutual
def impl_RestOfOnes.j0 : Nat → Int → Int → Bool → Option (Int × Bool)
 | 0, _, _, _ => none
 | k + 1, x0, x1, x16 => if x16 = true then (some (0, false)) else (impl_RestOfOnes.l0 k x0 1 10 x1)
def impl_RestOfOnes.l0 : Nat → Int → Int → Int → Int → Option (Int × Bool)
 | 0, _, _, _, _ => none
 | k + 1, x0, x6, x7, x8 => if x8 > 0 then (if (Int.tmod x8 2) = 1 then (if (wrap64 (9 * x0)) = 0 then (none) else (impl_RestOfOnes.l0 k x0 (Int.tmod (wrap64 (x6 * x7)) (wrap64 (9 * x0))) (Int.tmod (wrap64 (x7 * x7)) (wrap64 (9 * x0))) (wrap64 (Int.tdiv x8 2)))) else (if (wrap64 (9 * x0)) = 0 then (none) else (impl_RestOfOnes.l0 k x0 x6 (Int.tmod (wrap64 (x7 * x7)) (wrap64 (9 * x0))) (wrap64 (Int.tdiv x8 2))))) else (if (wrap64 (9 * x0)) = 0 then (none) else (some (wrap64 (Int.tdiv (Int.tmod (wrap64 ((wrap64 (x6 + (wrap64 (9 * x0)))) - 1)) (wrap64 (9 * x0))) 9), true)))
end
def impl_RestOfOnes.f (k : Nat) (a0 : Int) (a1 : Int) : Option (Int × Bool) := (impl_isDivisor.f a0).bind fun t403 => (if t403 = true then ((impl_within.f a1 1 1000000000000).bind fun t404 => (impl_RestOfOnes.j0 k a0 a1 (!t404))) else (impl_RestOfOnes.j0 k a0 a1 true))
theorem impl_RestOfOnes.mono_l : ∀ k, (∀ y0 y1 y2, LeO (impl_RestOfOnes.j0 k y0 y1 y2) (impl_RestOfOnes.j0 (k + 1) y0 y1 y2)) ∧ (∀ y0 y1 y2 y3, LeO (impl_RestOfOnes.l0 k y0 y1 y2 y3) (impl_RestOfOnes.l0 (k + 1) y0 y1 y2 y3))
 | 0 => ⟨fun _ _ _ r h => by simp [impl_RestOfOnes.j0] at h, fun _ _ _ _ r h => by simp [impl_RestOfOnes.l0] at h⟩
 | k + 1 => by
  obtain ⟨ih0, ih1⟩ := impl_RestOfOnes.mono_l k
  refine ⟨?_, ?_⟩
  · intro y0 y1 y2
    unfold impl_RestOfOnes.j0
    repeat' first
    | (with_reducible exact ih0 _ _ _)
    | (with_reducible exact ih1 _ _ _ _)
    | (with_reducible exact LeO.refl _)
    | (with_reducible exact LeO.none _)
    | (with_reducible refine LeO.ite ?_ ?_)
    | (with_reducible refine LeO.bind ?_ (fun _ => ?_))
    | exact LeO.none _
    | refine LeO.ite ?_ ?_
    | refine LeO.bind ?_ (fun _ => ?_)
  intro y0 y1 y2 y3
  unfold impl_RestOfOnes.l0
  repeat' first
  | (with_reducible exact ih0 _ _ _)
  | (with_reducible exact ih1 _ _ _ _)
  | (with_reducible exact LeO.refl _)
  | (with_reducible exact LeO.none _)
  | (with_reducible refine LeO.ite ?_ ?_)
  | (with_reducible refine LeO.bind ?_ (fun _ => ?_))
  | exact LeO.none _
  | refine LeO.ite ?_ ?_
  | refine LeO.bind ?_ (fun _ => ?_)
theorem impl_RestOfOnes.mono : ∀ a0 a1 k, LeO (impl_RestOfOnes.f k a0 a1) (impl_RestOfOnes.f (k + 1) a0 a1) := by
 intro a0 a1 k
 obtain ⟨ih0, ih1⟩ := impl_RestOfOnes.mono_l k
 unfold impl_RestOfOnes.f
 repeat' first
  | (with_reducible exact ih0 _ _ _)
  | (with_reducible exact ih1 _ _ _ _)
  | (with_reducible exact LeO.refl _)
  | (with_reducible exact LeO.none _)
  | (with_reducible refine LeO.ite ?_ ?_)
  | (with_reducible refine LeO.bind ?_ (fun _ => ?_))
  | exact LeO.none _
  | refine LeO.ite ?_ ?_
  | refine LeO.bind ?_ (fun _ => ?_)
set_option maxHeartbeats 8000000 in
set_option maxRecDepth 100000 in
theorem impl_RestOfOnes.calls (k : Nat) (a0 : Int) (a1 : Int) (r1 : Int) (r2 : Bool) (w : World) (h : impl_RestOfOnes.f k a0 a1 = some (r1, r2)) :
 Calls Tryz.prog 31 #[.int .i64 a0, .int .i64 a1] w fun e w' => e = .returned (.tuple #[.int .i64 r1, .bool r2]) ∧ Drawn0 w w' := by
 unfold impl_RestOfOnes.f at h
 have H := h
 clear h
 have HC3 := Aside0.mk H
 clear H
 go_enter Tryz.func31, Tryz.ntmps31
 go_upto_region 1 with (fail)
 go_cut [16] (fun v16 wc => ∃ (kq : Nat) (x16_2 : Bool), v16 = .bool x16_2 ∧ Aside0 (impl_RestOfOnes.j0 kq a0 a1 x16_2 = some (r1, r2)) ∧ Aside0 (kq ≤ k) ∧ Drawn0 w wc)
 case first =>
  have H := HC3.out
  clear HC3
  replace H := bd_ H; obtain ⟨t403, A4, H⟩ := H
  by_cases c5 : t403 = true
  · subst c5
    rw [if_pos rfl] at H
    replace H := bd_ H; obtain ⟨t404, A6, H⟩ := H
    have H' := Aside0.mk H
    clear H
    go_wp2_with (first | ((with_reducible refine gc_ 59 rfl ?_); refine gL_ 10 Tryz.func59 #[.int .i64 a0] ?_; (with_reducible refine (impl_isDivisor.calls a0 true _ A4.out).mono ?_); rintro e w' ⟨rfl, ⟨nd, rfl⟩⟩; refine ⟨_, rfl, ?_⟩) | (go_at_call 66; (with_reducible refine (impl_within.calls a1 1 1000000000000 t404 _ A6.out).mono ?_); rintro e w' ⟨rfl, ⟨nd, rfl⟩⟩))
    go_meet
    case rel => exact ⟨_, (!t404), zV_, H', ⟨by first | omega | exact Nat.le_refl _⟩, by repeat (first | exact Drawn0.refl _ | apply Drawn0.step)⟩
  replace H := bf_ c5 H; obtain ⟨rfl, H⟩ := H
  have H' := Aside0.mk H
  clear H
  go_wp2_with (first | ((with_reducible refine gc_ 59 rfl ?_); refine gL_ 10 Tryz.func59 #[.int .i64 a0] ?_; (with_reducible refine (impl_isDivisor.calls a0 false _ A4.out).mono ?_); rintro e w' ⟨rfl, ⟨nd, rfl⟩⟩; refine ⟨_, rfl, ?_⟩))
  go_meet
  case rel => exact ⟨_, (true), zV_, H', ⟨by first | omega | exact Nat.le_refl _⟩, by repeat (first | exact Drawn0.refl _ | apply Drawn0.step)⟩
 case rest =>
  clear HC3
  (try clear p2);(try clear c3);(try clear c5)
  obtain ⟨kq, x16_2, rfl, HA, HJ2, ⟨mc2, rfl⟩⟩ := hcut
  cases kq with
  | zero => exact absurd HA.out (by simp [impl_RestOfOnes.j0])
  | succ kj2 =>
   have H := HA.out
   clear HA
   simp only [impl_RestOfOnes.j0] at H
   by_cases c7 : x16_2 = true
   · subst c7
     rw [if_pos rfl] at H
     simp only [Option.some.injEq, Prod.mk.injEq] at H
     obtain ⟨rfl, rfl⟩ := H
     go_wp2
     go_ret2
     exact ⟨by first | rfl | (simp; done) | (simp [*]; done), by repeat (first | exact Drawn0.refl _ | apply Drawn0.step)⟩
   replace H := bf_ c7 H; obtain ⟨rfl, H⟩ := H
   have H' := Aside0.mk H
   clear H
   go_wp2
   go_loopg [6, 7, 8] kj2 (fun kq v6 v7 v8 w' => ∃ (x6_2 : Int) (x7_2 : Int) (x8_2 : Int), v6 = .int .i64 x6_2 ∧ v7 = .int .i64 x7_2 ∧ v8 = .int .i64 x8_2 ∧ Aside0 (impl_RestOfOnes.l0 kq a0 x6_2 x7_2 x8_2 = some (r1, r2)) ∧ Aside0 (kq ≤ kj2) ∧ Drawn0 w w')
   case atStart => exact ⟨(1), (10), (a1), zV_, zV_, zV_, H', ⟨Nat.le_refl _⟩, by repeat (first | exact Drawn0.refl _ | apply Drawn0.step)⟩
   case round =>
    clear H'
    (try clear c2);(try clear p2);(try clear c3);(try clear c5);(try clear c7);(try clear p2)
    obtain ⟨x6_2, x7_2, x8_2, rfl, rfl, rfl, HA, HK2, ⟨m2, rfl⟩⟩ := hrel
    cases gk with
    | zero => exact absurd HA.out (by simp [impl_RestOfOnes.l0])
    | succ k2 =>
     have H := HA.out
     clear HA
     simp only [impl_RestOfOnes.l0] at H
     by_cases c8 : x8_2 > 0
     · rw [if_pos c8] at H
       have c8b0 : decide (0 < x8_2) = true := decide_eq_true c8
       clear c8
       by_cases c9 : (Int.tmod x8_2 2) = 1
       · rw [if_pos c9] at H
         have c9b0 : ((Int.tmod x8_2 2) == 1) = true := beq_iff_eq.mpr c9
         have c9b1 : ((Int.tmod x8_2 2) != 1) = false := bne_eq_false_iff_eq.mpr c9
         clear c9
         by_cases c10 : (wrap64 (9 * a0)) = 0
         · exact none_ (if_pos c10) H
         rw [if_neg c10] at H
         have c10b0 : ((wrap64 (9 * a0)) == 0) = false := beq_eq_false_iff_ne.mpr c10
         have c10b1 : ((wrap64 (9 * a0)) != 0) = true := bne_iff_ne.mpr c10
         have H' := Aside0.mk H
         clear H
         go_wp2
         go_roundg k2
         case measure => have := HJ2.out; have := HK2.out; omega
         case rel => exact ⟨(Int.tmod (wrap64 (x6_2 * x7_2)) (wrap64 (9 * a0))), (Int.tmod (wrap64 (x7_2 * x7_2)) (wrap64 (9 * a0))), (wrap64 (Int.tdiv x8_2 2)), zV_, zV_, zV_, H', ⟨by have := HJ2.out; have := HK2.out; omega⟩, by repeat (first | exact Drawn0.refl _ | apply Drawn0.step)⟩
       rw [if_neg c9] at H
       have c9b0 : ((Int.tmod x8_2 2) == 1) = false := beq_eq_false_iff_ne.mpr c9
       have c9b1 : ((Int.tmod x8_2 2) != 1) = true := bne_iff_ne.mpr c9
       by_cases c11 : (wrap64 (9 * a0)) = 0
       · exact none_ (if_pos c11) H
       rw [if_neg c11] at H
       have c11b0 : ((wrap64 (9 * a0)) == 0) = false := beq_eq_false_iff_ne.mpr c11
       have c11b1 : ((wrap64 (9 * a0)) != 0) = true := bne_iff_ne.mpr c11
       have H' := Aside0.mk H
       clear H
       go_wp2
       go_roundg k2
       case measure => have := HJ2.out; have := HK2.out; omega
       case rel => exact ⟨(x6_2), (Int.tmod (wrap64 (x7_2 * x7_2)) (wrap64 (9 * a0))), (wrap64 (Int.tdiv x8_2 2)), zV_, zV_, zV_, H', ⟨by have := HJ2.out; have := HK2.out; omega⟩, by repeat (first | exact Drawn0.refl _ | apply Drawn0.step)⟩
     rw [if_neg c8] at H
     have c8b0 : decide (0 < x8_2) = false := decide_eq_false c8
     clear c8
     by_cases c12 : (wrap64 (9 * a0)) = 0
     · exact none_ (if_pos c12) H
     rw [if_neg c12] at H
     have c12b0 : ((wrap64 (9 * a0)) == 0) = false := beq_eq_false_iff_ne.mpr c12
     have c12b1 : ((wrap64 (9 * a0)) != 0) = true := bne_iff_ne.mpr c12
     simp only [Option.some.injEq, Prod.mk.injEq] at H
     obtain ⟨rfl, rfl⟩ := H
     go_wp2
     go_ret2
     exact ⟨by first | rfl | (simp; done) | (simp [*]; done), by repeat (first | exact Drawn0.refl _ | apply Drawn0.step)⟩

/-! ### spec_RestOfOnes: function 32 -/
mutual
def spec_RestOfOnes.j0 : Nat → Int → Int → Bool → Option (Int × Bool)
 | 0, _, _, _ => none
 | k + 1, x0, x1, x16 => if x16 = true then (some (0, false)) else (if x0 = 0 then (none) else (spec_RestOfOnes.l0 k x0 x1 0 ((1 : Int) % x0) ((10 : Int) % x0)))
def spec_RestOfOnes.l0 : Nat → Int → Int → Int → Int → Int → Option (Int × Bool)
 | 0, _, _, _, _, _ => none
 | k + 1, x0, x1, x6, x7, x8 => if x1 > 0 then (if (Int.tmod x1 2) = 1 then (if x0 = 0 then (none) else (spec_RestOfOnes.l0 k x0 (wrap64 (Int.tdiv x1 2)) (Int.tmod (wrap64 ((wrap64 (x6 * x8)) + x7)) x0) (Int.tmod (wrap64 ((wrap64 (x7 * x8)) + x7)) x0) (Int.tmod (wrap64 (x8 * x8)) x0))) else (if x0 = 0 then (none) else (spec_RestOfOnes.l0 k x0 (wrap64 (Int.tdiv x1 2)) x6 (Int.tmod (wrap64 ((wrap64 (x7 * x8)) + x7)) x0) (Int.tmod (wrap64 (x8 * x8)) x0)))) else (some (x6, true))
end
def spec_RestOfOnes.f (k : Nat) (a0 : Int) (a1 : Int) : Option (Int × Bool) := (spec_leDivisor.f a0).bind fun t405 => (if t405 = true then ((spec_l1In.f a1 1 1000000000000).bind fun t406 => (spec_RestOfOnes.j0 k a0 a1 (!t406))) else (spec_RestOfOnes.j0 k a0 a1 true))
theorem spec_RestOfOnes.mono_l : ∀ k, (∀ y0 y1 y2, LeO (spec_RestOfOnes.j0 k y0 y1 y2) (spec_RestOfOnes.j0 (k + 1) y0 y1 y2)) ∧ (∀ y0 y1 y2 y3 y4, LeO (spec_RestOfOnes.l0 k y0 y1 y2 y3 y4) (spec_RestOfOnes.l0 (k + 1) y0 y1 y2 y3 y4))
 | 0 => ⟨fun _ _ _ r h => by simp [spec_RestOfOnes.j0] at h, fun _ _ _ _ _ r h => by simp [spec_RestOfOnes.l0] at h⟩
 | k + 1 => by
  obtain ⟨ih0, ih1⟩ := spec_RestOfOnes.mono_l k
  refine ⟨?_, ?_⟩
  · intro y0 y1 y2
    unfold spec_RestOfOnes.j0
    repeat' first
    | (with_reducible exact ih0 _ _ _)
    | (with_reducible exact ih1 _ _ _ _ _)
    | (with_reducible exact LeO.refl _)
    | (with_reducible exact LeO.none _)
    | (with_reducible refine LeO.ite ?_ ?_)
    | (with_reducible refine LeO.bind ?_ (fun _ => ?_))
    | exact LeO.none _
    | refine LeO.ite ?_ ?_
    | refine LeO.bind ?_ (fun _ => ?_)
  intro y0 y1 y2 y3 y4
  unfold spec_RestOfOnes.l0
  repeat' first
  | (with_reducible exact ih0 _ _ _)
  | (with_reducible exact ih1 _ _ _ _ _)
  | (with_reducible exact LeO.refl _)
  | (with_reducible exact LeO.none _)
  | (with_reducible refine LeO.ite ?_ ?_)
  | (with_reducible refine LeO.bind ?_ (fun _ => ?_))
  | exact LeO.none _
  | refine LeO.ite ?_ ?_
  | refine LeO.bind ?_ (fun _ => ?_)
theorem spec_RestOfOnes.mono : ∀ a0 a1 k, LeO (spec_RestOfOnes.f k a0 a1) (spec_RestOfOnes.f (k + 1) a0 a1) := by
 intro a0 a1 k
 obtain ⟨ih0, ih1⟩ := spec_RestOfOnes.mono_l k
 unfold spec_RestOfOnes.f
 repeat' first
  | (with_reducible exact ih0 _ _ _)
  | (with_reducible exact ih1 _ _ _ _ _)
  | (with_reducible exact LeO.refl _)
  | (with_reducible exact LeO.none _)
  | (with_reducible refine LeO.ite ?_ ?_)
  | (with_reducible refine LeO.bind ?_ (fun _ => ?_))
  | exact LeO.none _
  | refine LeO.ite ?_ ?_
  | refine LeO.bind ?_ (fun _ => ?_)
set_option maxHeartbeats 8000000 in
set_option maxRecDepth 100000 in
theorem spec_RestOfOnes.calls (k : Nat) (a0 : Int) (a1 : Int) (r1 : Int) (r2 : Bool) (w : World) (h : spec_RestOfOnes.f k a0 a1 = some (r1, r2)) :
 Calls Tryz.prog 32 #[.int .i64 a0, .int .i64 a1] w fun e w' => e = .returned (.tuple #[.int .i64 r1, .bool r2]) ∧ Drawn0 w w' := by
 unfold spec_RestOfOnes.f at h
 have H := h
 clear h
 have HC3 := Aside0.mk H
 clear H
 go_enter Tryz.func32, Tryz.ntmps32
 go_upto_region 1 with (fail)
 repeat (go_quiet (fail); go_upto_region 1 with (fail))
 go_cut [16] (fun v16 wc => ∃ (kq : Nat) (x16_2 : Bool), v16 = .bool x16_2 ∧ Aside0 (spec_RestOfOnes.j0 kq a0 a1 x16_2 = some (r1, r2)) ∧ Aside0 (kq ≤ k) ∧ Drawn0 w wc)
 case first =>
  have H := HC3.out
  clear HC3
  replace H := bd_ H; obtain ⟨t405, A4, H⟩ := H
  by_cases c5 : t405 = true
  · subst c5
    rw [if_pos rfl] at H
    replace H := bd_ H; obtain ⟨t406, A6, H⟩ := H
    have H' := Aside0.mk H
    clear H
    go_wp2_with (first | (go_at_call 62; (with_reducible refine (spec_leDivisor.calls a0 true _ A4.out).mono ?_); rintro e w' ⟨rfl, ⟨nd, rfl⟩⟩; (try first | exact ⟨rfl, _, World.drewN_drewN _ _ _⟩ | exact ⟨rfl, _, Eq.trans (World.drewN_drewN _ _ _) (congrArg (World.drewN _) (Nat.add_assoc _ _ _))⟩)) | (go_at_call 55; (with_reducible refine (spec_l1In.calls a1 1 1000000000000 t406 _ A6.out).mono ?_); rintro e w' ⟨rfl, ⟨nd, rfl⟩⟩; (try first | exact ⟨rfl, _, World.drewN_drewN _ _ _⟩ | exact ⟨rfl, _, Eq.trans (World.drewN_drewN _ _ _) (congrArg (World.drewN _) (Nat.add_assoc _ _ _))⟩)))
    repeat (go_quiet (fail); try go_wp2_with (first | (go_at_call 62; (with_reducible refine (spec_leDivisor.calls a0 true _ A4.out).mono ?_); rintro e w' ⟨rfl, ⟨nd, rfl⟩⟩; (try first | exact ⟨rfl, _, World.drewN_drewN _ _ _⟩ | exact ⟨rfl, _, Eq.trans (World.drewN_drewN _ _ _) (congrArg (World.drewN _) (Nat.add_assoc _ _ _))⟩)) | (go_at_call 55; (with_reducible refine (spec_l1In.calls a1 1 1000000000000 t406 _ A6.out).mono ?_); rintro e w' ⟨rfl, ⟨nd, rfl⟩⟩; (try first | exact ⟨rfl, _, World.drewN_drewN _ _ _⟩ | exact ⟨rfl, _, Eq.trans (World.drewN_drewN _ _ _) (congrArg (World.drewN _) (Nat.add_assoc _ _ _))⟩))))
    go_meet
    case rel => exact ⟨_, (!t406), zV_, H', ⟨by first | omega | exact Nat.le_refl _⟩, by repeat (first | exact Drawn0.refl _ | apply Drawn0.step)⟩
  replace H := bf_ c5 H; obtain ⟨rfl, H⟩ := H
  have H' := Aside0.mk H
  clear H
  go_wp2_with (first | (go_at_call 62; (with_reducible refine (spec_leDivisor.calls a0 false _ A4.out).mono ?_); rintro e w' ⟨rfl, ⟨nd, rfl⟩⟩; (try first | exact ⟨rfl, _, World.drewN_drewN _ _ _⟩ | exact ⟨rfl, _, Eq.trans (World.drewN_drewN _ _ _) (congrArg (World.drewN _) (Nat.add_assoc _ _ _))⟩)))
  repeat (go_quiet (fail); try go_wp2_with (first | (go_at_call 62; (with_reducible refine (spec_leDivisor.calls a0 false _ A4.out).mono ?_); rintro e w' ⟨rfl, ⟨nd, rfl⟩⟩; (try first | exact ⟨rfl, _, World.drewN_drewN _ _ _⟩ | exact ⟨rfl, _, Eq.trans (World.drewN_drewN _ _ _) (congrArg (World.drewN _) (Nat.add_assoc _ _ _))⟩))))
  go_meet
  case rel => exact ⟨_, (true), zV_, H', ⟨by first | omega | exact Nat.le_refl _⟩, by repeat (first | exact Drawn0.refl _ | apply Drawn0.step)⟩
 case rest =>
  clear HC3
  (try clear p2);(try clear c3);(try clear c5)
  obtain ⟨kq, x16_2, rfl, HA, HJ2, ⟨mc2, rfl⟩⟩ := hcut
  cases kq with
  | zero => exact absurd HA.out (by simp [spec_RestOfOnes.j0])
  | succ kj2 =>
   have H := HA.out
   clear HA
   simp only [spec_RestOfOnes.j0] at H
   by_cases c7 : x16_2 = true
   · subst c7
     rw [if_pos rfl] at H
     simp only [Option.some.injEq, Prod.mk.injEq] at H
     obtain ⟨rfl, rfl⟩ := H
     go_wp2
     repeat (go_quiet (fail); try go_wp2)
     go_ret2
     exact ⟨by first | rfl | (simp; done) | (simp [*]; done), by repeat (first | exact Drawn0.refl _ | apply Drawn0.step)⟩
   replace H := bf_ c7 H; obtain ⟨rfl, H⟩ := H
   by_cases c8 : a0 = 0
   · exact none_ (if_pos c8) H
   rw [if_neg c8] at H
   have c8b0 : (a0 == 0) = false := beq_eq_false_iff_ne.mpr c8
   have c8b1 : (a0 != 0) = true := bne_iff_ne.mpr c8
   have H' := Aside0.mk H
   clear H
   go_wp2
   repeat (go_quiet (fail); try go_wp2)
   go_loopg [1, 6, 7, 8] kj2 (fun kq v1 v6 v7 v8 w' => ∃ (x1_2 : Int) (x6_2 : Int) (x7_2 : Int) (x8_2 : Int), v1 = .int .i64 x1_2 ∧ v6 = .int .i64 x6_2 ∧ v7 = .int .i64 x7_2 ∧ v8 = .int .i64 x8_2 ∧ Aside0 (spec_RestOfOnes.l0 kq a0 x1_2 x6_2 x7_2 x8_2 = some (r1, r2)) ∧ Aside0 (kq ≤ kj2) ∧ Drawn0 w w')
   case atStart => exact ⟨(a1), (0), ((1 : Int) % a0), ((10 : Int) % a0), zV_, zV_, zV_, zV_, H', ⟨Nat.le_refl _⟩, by repeat (first | exact Drawn0.refl _ | apply Drawn0.step)⟩
   case round =>
    clear H'
    (try clear c2);(try clear p2);(try clear c3);(try clear c5);(try clear c7);(try clear c8);(try clear c8b0);(try clear c8b1);(try clear p2)
    obtain ⟨x1_2, x6_2, x7_2, x8_2, rfl, rfl, rfl, rfl, HA, HK2, ⟨m2, rfl⟩⟩ := hrel
    cases gk with
    | zero => exact absurd HA.out (by simp [spec_RestOfOnes.l0])
    | succ k2 =>
     have H := HA.out
     clear HA
     simp only [spec_RestOfOnes.l0] at H
     by_cases c9 : x1_2 > 0
     · rw [if_pos c9] at H
       have c9b0 : decide (0 < x1_2) = true := decide_eq_true c9
       clear c9
       by_cases c10 : (Int.tmod x1_2 2) = 1
       · rw [if_pos c10] at H
         have c10b0 : ((Int.tmod x1_2 2) == 1) = true := beq_iff_eq.mpr c10
         have c10b1 : ((Int.tmod x1_2 2) != 1) = false := bne_eq_false_iff_eq.mpr c10
         clear c10
         by_cases c11 : a0 = 0
         · exact none_ (if_pos c11) H
         rw [if_neg c11] at H
         have c11b0 : (a0 == 0) = false := beq_eq_false_iff_ne.mpr c11
         have c11b1 : (a0 != 0) = true := bne_iff_ne.mpr c11
         have H' := Aside0.mk H
         clear H
         go_wp2
         repeat (go_quiet (fail); try go_wp2)
         go_roundg k2
         case measure => have := HJ2.out; have := HK2.out; omega
         case rel => exact ⟨(wrap64 (Int.tdiv x1_2 2)), (Int.tmod (wrap64 ((wrap64 (x6_2 * x8_2)) + x7_2)) a0), (Int.tmod (wrap64 ((wrap64 (x7_2 * x8_2)) + x7_2)) a0), (Int.tmod (wrap64 (x8_2 * x8_2)) a0), zV_, zV_, zV_, zV_, H', ⟨by have := HJ2.out; have := HK2.out; omega⟩, by repeat (first | exact Drawn0.refl _ | apply Drawn0.step)⟩
       rw [if_neg c10] at H
       have c10b0 : ((Int.tmod x1_2 2) == 1) = false := beq_eq_false_iff_ne.mpr c10
       have c10b1 : ((Int.tmod x1_2 2) != 1) = true := bne_iff_ne.mpr c10
       by_cases c12 : a0 = 0
       · exact none_ (if_pos c12) H
       rw [if_neg c12] at H
       have c12b0 : (a0 == 0) = false := beq_eq_false_iff_ne.mpr c12
       have c12b1 : (a0 != 0) = true := bne_iff_ne.mpr c12
       have H' := Aside0.mk H
       clear H
       go_wp2
       repeat (go_quiet (fail); try go_wp2)
       go_roundg k2
       case measure => have := HJ2.out; have := HK2.out; omega
       case rel => exact ⟨(wrap64 (Int.tdiv x1_2 2)), (x6_2), (Int.tmod (wrap64 ((wrap64 (x7_2 * x8_2)) + x7_2)) a0), (Int.tmod (wrap64 (x8_2 * x8_2)) a0), zV_, zV_, zV_, zV_, H', ⟨by have := HJ2.out; have := HK2.out; omega⟩, by repeat (first | exact Drawn0.refl _ | apply Drawn0.step)⟩
     rw [if_neg c9] at H
     have c9b0 : decide (0 < x1_2) = false := decide_eq_false c9
     clear c9
     simp only [Option.some.injEq, Prod.mk.injEq] at H
     obtain ⟨rfl, rfl⟩ := H
     go_wp2
     repeat (go_quiet (fail); try go_wp2)
     go_ret2
     exact ⟨by first | rfl | (simp; done) | (simp [*]; done), by repeat (first | exact Drawn0.refl _ | apply Drawn0.step)⟩

end Go.Proofs.YtjnfaidngaobmaaGreatDoor.PFnLeastOfDigits

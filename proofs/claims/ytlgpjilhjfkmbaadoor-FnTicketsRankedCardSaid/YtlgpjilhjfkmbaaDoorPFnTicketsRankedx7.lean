-- Laid by this session's program gprint.py over the kit's print.
import Derived.Test.YtlgpjilhjfkmbaaDoorPFnTicketsRankedx0
import Derived.Test.YtlgpjilhjfkmbaaDoorPFnTicketsRankedx2
import Derived.Test.YtlgpjilhjfkmbaaDoorPFnTicketsRankedx3
import Derived.Test.YtlgpjilhjfkmbaaDoorPFnTicketsRankedx4
import Derived.Test.YtlgpjilhjfkmbaaDoorPFnTicketsRankedx5
import Derived.Test.YtlgpjilhjfkmbaaDoorPFnTicketsRankedx6
namespace Go.Proofs.YtlgpjilhjfkmbaaDoor.PFnTicketsRanked
open Go.RowKit Go.Proofs.YtlgpjilhjfkmbaaDoorW.PrintWords Go.Proofs.YtlgpjilhjfkmbaaDoorW.PrintLast Go.Proofs.YtlgpjilhjfkmbaaDoorW.PrintMore
attribute [local go_sem] max2_int min2_int max_two min_two max_three min_three max_four min_four   -- for this text's walks alone
set_option linter.unusedVariables false
set_option linter.unusedSimpArgs false
theorem z7_0_ {p : Prop} (h : p := by (try simp only [List.map_toArray, List.map_cons, List.map_nil]); first | done | rfl | (simp only [List.length_drop, List.length_take]; rfl)) : p := h
theorem z7_1_ {p : Prop} (h : p := by repeat (first | (with_reducible first | exact HB.out | apply below_alloc | apply pw_below_drewN | apply below_drew1) | exact HB.out)) : p := h
theorem z7_2_ {p : Prop} (h : p := by first | (with_reducible assumption) | assumption) : p := h

/-! ### spec_DrawNextLucky: function 18 -/
def spec_DrawNextLucky.f (k : Nat) (l0 : List Int) : Option (ByteArray) := (spec_DrawIsTicket.f k l0).bind fun t295 => (some t295)
theorem spec_DrawNextLucky.mono : ∀ a0 k, LeO (spec_DrawNextLucky.f k a0) (spec_DrawNextLucky.f (k + 1) a0) := by
 intro a0 k
 unfold spec_DrawNextLucky.f
 repeat' first
  | (with_reducible exact spec_DrawIsTicket.mono _ _)
  | (with_reducible exact LeO.refl _)
  | (with_reducible exact LeO.none _)
  | (with_reducible refine LeO.ite ?_ ?_)
  | (with_reducible refine LeO.bind ?_ (fun _ => ?_))
  | exact spec_DrawIsTicket.mono _ _
  | exact LeO.none _
  | refine LeO.ite ?_ ?_
  | refine LeO.bind ?_ (fun _ => ?_)
set_option maxHeartbeats 8000000 in
set_option maxRecDepth 100000 in
theorem spec_DrawNextLucky.calls (k : Nat) (A0 : Option Addr) (c0 : Nat) (l0 : List Int) (r : ByteArray) (w : World) (hr0 : Kd.C (Kd.int .u8) w A0 l0.length l0) (hc0 : l0.length ≤ c0) (h : spec_DrawNextLucky.f k l0 = some r) :
 Calls Tryd.prog 18 #[.slice A0 l0.length c0] w fun e w' => e = .returned (.string r) ∧ Below w.heap.size w w' := by
 have HR0 := Aside0.mk hr0
 have HC0 := Aside0.mk hc0
 clear hr0 hc0
 have HB := Aside0.mk (Below.refl w.heap.size w)
 have H : ((spec_DrawIsTicket.f k l0).bind fun t295 => (some t295)) = some r := h
 clear h
 replace H := Option.bind_eq_some_iff.mp H
 obtain ⟨t295, A20, H⟩ := H
 have A2 := Aside0.mk A20
 clear A20
 obtain rfl := Option.some.inj H
 go_enter Tryd.func18, Tryd.ntmps18
 go_wp2_with (first | ((with_reducible refine gate_callee (f := 49) rfl ?_); refine goesL_ (some 4) rfl rfl Tryd.func49 (by kernel_rfl) rfl #[.slice A0 l0.length c0] rfl z7_0_ ?_; (with_reducible refine (spec_DrawIsTicket.calls k _ _ l0 t295 _ ?side1 ?side2 A2.out).mono ?_); (case side1 => repeat (first | exact HR0.out | (with_reducible refine Kd.C_alloc ?_ _) | (with_reducible refine Kd.C_drewN ?_ _) | (with_reducible refine Kd.C_drew ?_))); (case side2 => exact HC0.out); rintro e w3 ⟨rfl, hb⟩; refine ⟨_, rfl, ?_⟩; have n0_ := Aside0.mk (below_step z7_1_ hb); clear HB; have HB := n0_; clear n0_; (try clear hb); (try clear hb2); (try clear hk); (try clear hi)))
 go_ret
 exact ⟨by first | rfl | (simp [errW_none, errW_some] <;> rfl) | (simp [*, errW_none, errW_some] <;> rfl), by repeat (first | (with_reducible first | exact HB.out | apply below_alloc | apply pw_below_drewN | apply below_drew1) | exact HB.out)⟩

/-! ### impl_bit: function 50 -/
def impl_bit.f (a0 : Bool) : Option (Int) := if a0 = true then (some 1) else (some 0)
set_option maxHeartbeats 8000000 in
set_option maxRecDepth 100000 in
theorem impl_bit.calls (a0 : Bool) (r : Int) (w : World) (h : impl_bit.f a0 = some r) :
 Calls Tryd.prog 50 #[.bool a0] w fun e w' => e = .returned (.int .i64 r) ∧ Drawn0 w w' := by
 have H : (if a0 = true then (some 1) else (some 0)) = some r := h
 clear h
 by_cases c2 : a0 = true
 · subst c2
   rw [if_pos rfl] at H
   obtain rfl := Option.some.inj H
   go_enter Tryd.func50, Tryd.ntmps50
   go_wp2
   go_ret
   exact ⟨by first | rfl | (simp; done) | (simp [*]; done), by repeat (first | exact Drawn0.refl _ | apply Drawn0.step)⟩
 replace c2 := Bool.eq_false_iff.mpr c2
 subst c2
 rw [if_neg (show ¬ (false = true) by decide)] at H
 obtain rfl := Option.some.inj H
 go_enter Tryd.func50, Tryd.ntmps50
 go_wp2
 go_ret
 exact ⟨by first | rfl | (simp; done) | (simp [*]; done), by repeat (first | exact Drawn0.refl _ | apply Drawn0.step)⟩

/-! ### impl_NextLucky: function 19 -/
def impl_NextLucky.f (k : Nat) (a0 : ByteArray) : Option (ByteArray × Bool) := (impl_IsTicket.f k a0).bind fun t296 => (if t296 = true then ((impl_rankOfLucky.f k a0).bind fun t297 => ((impl_isLucky.f k a0).bind fun t298 => ((impl_bit.f t298).bind fun t299 => ((impl_LuckyOfRank.f k (a0.size : Int) (wrap64 (t297 + t299))).bind fun bt300 => (some (bt300.1, bt300.2)))))) else (some ((⟨#[]⟩ : ByteArray), false)))
theorem impl_NextLucky.mono : ∀ a0 k, LeO (impl_NextLucky.f k a0) (impl_NextLucky.f (k + 1) a0) := by
 intro a0 k
 unfold impl_NextLucky.f
 repeat' first
  | (with_reducible exact impl_IsTicket.mono _ _)
  | (with_reducible exact impl_LuckyOfRank.mono _ _ _)
  | (with_reducible exact impl_isLucky.mono _ _)
  | (with_reducible exact impl_rankOfLucky.mono _ _)
  | (with_reducible exact LeO.refl _)
  | (with_reducible exact LeO.none _)
  | (with_reducible refine LeO.ite ?_ ?_)
  | (with_reducible refine LeO.bind ?_ (fun _ => ?_))
  | exact impl_IsTicket.mono _ _
  | exact impl_LuckyOfRank.mono _ _ _
  | exact impl_isLucky.mono _ _
  | exact impl_rankOfLucky.mono _ _
  | exact LeO.none _
  | refine LeO.ite ?_ ?_
  | refine LeO.bind ?_ (fun _ => ?_)
set_option maxHeartbeats 8000000 in
set_option maxRecDepth 100000 in
theorem impl_NextLucky.calls (k : Nat) (a0 : ByteArray) (r1 : ByteArray) (r2 : Bool) (w : World) (h : impl_NextLucky.f k a0 = some (r1, r2)) :
 Calls Tryd.prog 19 #[.string a0] w fun e w' => e = .returned (.tuple #[.string r1, .bool r2]) ∧ Below w.heap.size w w' := by
 have HB := Aside0.mk (Below.refl w.heap.size w)
 have H : ((impl_IsTicket.f k a0).bind fun t296 => (if t296 = true then ((impl_rankOfLucky.f k a0).bind fun t297 => ((impl_isLucky.f k a0).bind fun t298 => ((impl_bit.f t298).bind fun t299 => ((impl_LuckyOfRank.f k (a0.size : Int) (wrap64 (t297 + t299))).bind fun bt300 => (some (bt300.1, bt300.2)))))) else (some ((⟨#[]⟩ : ByteArray), false)))) = some (r1, r2) := h
 clear h
 replace H := Option.bind_eq_some_iff.mp H
 obtain ⟨t296, A20, H⟩ := H
 have A2 := Aside0.mk A20
 clear A20
 by_cases c3 : t296 = true
 · subst c3
   have H1 : ((impl_rankOfLucky.f k a0).bind fun t297 => ((impl_isLucky.f k a0).bind fun t298 => ((impl_bit.f t298).bind fun t299 => ((impl_LuckyOfRank.f k (a0.size : Int) (wrap64 (t297 + t299))).bind fun bt300 => (some (bt300.1, bt300.2)))))) = some (r1, r2) := by rw [if_pos rfl] at H; exact H
   clear H
   have H := H1
   clear H1
   replace H := Option.bind_eq_some_iff.mp H
   obtain ⟨t297, A40, H⟩ := H
   have A4 := Aside0.mk A40
   clear A40
   replace H := Option.bind_eq_some_iff.mp H
   obtain ⟨t298, A50, H⟩ := H
   have A5 := Aside0.mk A50
   clear A50
   replace H := Option.bind_eq_some_iff.mp H
   obtain ⟨t299, A60, H⟩ := H
   have A6 := Aside0.mk A60
   clear A60
   replace H := Option.bind_eq_some_iff.mp H
   obtain ⟨⟨t300, t301⟩, A70, H⟩ := H
   dsimp only at H
   have A7 := Aside0.mk A70
   clear A70
   simp only [Option.some.injEq, Prod.mk.injEq] at H
   obtain ⟨rfl, rfl⟩ := H
   go_enter Tryd.func19, Tryd.ntmps19
   go_wp2_with (first | ((with_reducible refine gate_callee (f := 29) rfl ?_); refine goesL_ (some 5) rfl rfl Tryd.func29 (by kernel_rfl) rfl #[.string a0] rfl z7_0_ ?_; (with_reducible refine (impl_IsTicket.calls k a0 true _ A2.out).mono ?_); rintro e w' ⟨rfl, ⟨nd, rfl⟩⟩; refine ⟨_, rfl, ?_⟩) | ((with_reducible refine gate_callee (f := 48) rfl ?_); refine goesL_ (some 10) rfl rfl Tryd.func48 (by kernel_rfl) rfl #[.string a0] rfl z7_0_ ?_; (with_reducible refine (impl_rankOfLucky.calls k a0 t297 _ A4.out).mono ?_); rintro e w8 ⟨rfl, hb⟩; refine ⟨_, rfl, ?_⟩; have n0_ := Aside0.mk (below_step z7_1_ hb); clear HB; have HB := n0_; clear n0_; (try clear hb); (try clear hb2); (try clear hk); (try clear hi)) | ((with_reducible refine gate_callee (f := 47) rfl ?_); refine goesL_ (some 12) rfl rfl Tryd.func47 (by kernel_rfl) rfl #[.string a0] rfl z7_0_ ?_; (with_reducible refine (impl_isLucky.calls k a0 t298 _ A5.out).mono ?_); rintro e w' ⟨rfl, ⟨nd, rfl⟩⟩; refine ⟨_, rfl, ?_⟩) | ((with_reducible refine gate_callee (f := 50) rfl ?_); refine goesL_ (some 13) rfl rfl Tryd.func50 (by kernel_rfl) rfl #[.bool t298] rfl z7_0_ ?_; (with_reducible refine (impl_bit.calls t298 t299 _ A6.out).mono ?_); rintro e w' ⟨rfl, ⟨nd, rfl⟩⟩; refine ⟨_, rfl, ?_⟩) | ((with_reducible refine gate_callee (f := 6) rfl ?_); refine goesL_ (some 15) rfl rfl Tryd.func6 (by kernel_rfl) rfl #[.int .i64 (a0.size : Int), .int .i64 (wrap64 (t297 + t299))] rfl z7_0_ ?_; (with_reducible refine (impl_LuckyOfRank.calls k (a0.size : Int) (wrap64 (t297 + t299)) t300 t301 _ A7.out).mono ?_); rintro e w9 ⟨rfl, hb⟩; refine ⟨_, rfl, ?_⟩; have n0_ := Aside0.mk (below_step z7_1_ hb); clear HB; have HB := n0_; clear n0_; (try clear hb); (try clear hb2); (try clear hk); (try clear hi)))
   go_ret2
   exact ⟨by first | rfl | (simp [errW_none, errW_some] <;> rfl) | (simp [*, errW_none, errW_some] <;> rfl), by repeat (first | (with_reducible first | exact HB.out | apply below_alloc | apply pw_below_drewN | apply below_drew1) | exact HB.out)⟩
 replace c3 := Bool.eq_false_iff.mpr c3
 subst c3
 have H1 : (some ((⟨#[]⟩ : ByteArray), false)) = some (r1, r2) := by rw [if_neg (show ¬ (false = true) by decide)] at H; exact H
 clear H
 have H := H1
 clear H1
 simp only [Option.some.injEq, Prod.mk.injEq] at H
 obtain ⟨rfl, rfl⟩ := H
 go_enter Tryd.func19, Tryd.ntmps19
 go_wp2_with (first | ((with_reducible refine gate_callee (f := 29) rfl ?_); refine goesL_ (some 5) rfl rfl Tryd.func29 (by kernel_rfl) rfl #[.string a0] rfl z7_0_ ?_; (with_reducible refine (impl_IsTicket.calls k a0 false _ A2.out).mono ?_); rintro e w' ⟨rfl, ⟨nd, rfl⟩⟩; refine ⟨_, rfl, ?_⟩))
 go_ret2
 exact ⟨by first | rfl | (simp [errW_none, errW_some] <;> rfl) | (simp [*, errW_none, errW_some] <;> rfl), by repeat (first | (with_reducible first | exact HB.out | apply below_alloc | apply pw_below_drewN | apply below_drew1) | exact HB.out)⟩

/-! ### spec_tkGood: function 51 -/
def spec_tkGood.l0 : Nat → ByteArray → Int → Option (Bool)
 | 0, _, _ => none
 | k + 1, x0, x3 => if x3 < (x0.size : Int) then (if 0 ≤ x3 then (if (bt x0 x3) < 48 then (some false) else (if (bt x0 x3) > 57 then (some false) else (spec_tkGood.l0 k x0 (wrap64 (x3 + 1))))) else (none)) else (some true)
def spec_tkGood.f (k : Nat) (a0 : ByteArray) : Option (Bool) := (spec_tkSize.f (a0.size : Int)).bind fun t302 => (if t302 = true then (spec_tkGood.l0 k a0 0) else (some false))
theorem spec_tkGood.mono_l : ∀ k, (∀ y0 y1, LeO (spec_tkGood.l0 k y0 y1) (spec_tkGood.l0 (k + 1) y0 y1))
 | 0 => fun _ _ r h => by simp [spec_tkGood.l0] at h
 | k + 1 => by
  have ih0 := spec_tkGood.mono_l k
  intro y0 y1
  unfold spec_tkGood.l0
  repeat' first
  | (with_reducible exact ih0 _ _)
  | (with_reducible exact LeO.refl _)
  | (with_reducible exact LeO.none _)
  | (with_reducible refine LeO.ite ?_ ?_)
  | (with_reducible refine LeO.bind ?_ (fun _ => ?_))
  | exact ih0 _ _
  | exact LeO.none _
  | refine LeO.ite ?_ ?_
  | refine LeO.bind ?_ (fun _ => ?_)
theorem spec_tkGood.mono : ∀ a0 k, LeO (spec_tkGood.f k a0) (spec_tkGood.f (k + 1) a0) := by
 intro a0 k
 have ih0 := spec_tkGood.mono_l k
 unfold spec_tkGood.f
 repeat' first
  | (with_reducible exact ih0 _ _)
  | (with_reducible exact LeO.refl _)
  | (with_reducible exact LeO.none _)
  | (with_reducible refine LeO.ite ?_ ?_)
  | (with_reducible refine LeO.bind ?_ (fun _ => ?_))
  | exact ih0 _ _
  | exact LeO.none _
  | refine LeO.ite ?_ ?_
  | refine LeO.bind ?_ (fun _ => ?_)
set_option maxHeartbeats 8000000 in
set_option maxRecDepth 100000 in
theorem spec_tkGood.calls (k : Nat) (a0 : ByteArray) (r : Bool) (w : World) (h : spec_tkGood.f k a0 = some r) :
 Calls Tryd.prog 51 #[.string a0] w fun e w' => e = .returned (.bool r) ∧ Drawn0 w w' := by
 have H : ((spec_tkSize.f (a0.size : Int)).bind fun t302 => (if t302 = true then (spec_tkGood.l0 k a0 0) else (some false))) = some r := h
 clear h
 replace H := Option.bind_eq_some_iff.mp H
 obtain ⟨t302, A20, H⟩ := H
 have A2 := Aside0.mk A20
 clear A20
 by_cases c3 : t302 = true
 · subst c3
   rw [if_pos rfl] at H
   have H' := Aside0.mk H
   clear H
   go_enter Tryd.func51, Tryd.ntmps51
   go_wp2_with (first | ((with_reducible refine gate_callee (f := 41) rfl ?_); refine goesL_ (some 6) rfl rfl Tryd.func41 (by kernel_rfl) rfl #[.int .i64 (a0.size : Int)] rfl z7_0_ ?_; (with_reducible refine (spec_tkSize.calls (a0.size : Int) true _ A2.out).mono ?_); rintro e w' ⟨rfl, ⟨nd, rfl⟩⟩; refine ⟨_, rfl, ?_⟩))
   go_loopg [3] k (fun kq v3 w' => ∃ (x3_1 : Int), v3 = .int .i64 x3_1 ∧ Aside0 (spec_tkGood.l0 kq a0 x3_1 = some r) ∧ Aside0 (kq ≤ k) ∧ Drawn0 w w')
   case atStart => exact ⟨(0), (by first | rfl | (simp; done) | (simp [*]; done)), H', ⟨Nat.le_refl _⟩, by repeat (first | exact Drawn0.refl _ | apply Drawn0.step)⟩
   case round =>
    clear H'
    (try clear p2);(try clear c3)
    obtain ⟨x3_1, rfl, HA, HK1, ⟨m1, rfl⟩⟩ := hrel
    cases gk with
    | zero => exact absurd HA.out (by simp [spec_tkGood.l0])
    | succ k1 =>
     have H := HA.out
     clear HA
     simp only [spec_tkGood.l0] at H
     by_cases c4 : x3_1 < (a0.size : Int)
     · rw [if_pos c4] at H
       have c4b0 : decide (x3_1 < (a0.size : Int)) = true := decide_eq_true c4
       clear c4
       by_cases c5 : 0 ≤ x3_1
       rotate_left
       · exact none_ (if_neg c5) H
       rw [if_pos c5] at H
       have c5b0 : decide (0 ≤ x3_1) = true := decide_eq_true c5
       clear c5
       by_cases c7 : (bt a0 x3_1) < 48
       · rw [if_pos c7] at H
         have c7b0 : decide ((bt a0 x3_1) < 48) = true := decide_eq_true c7
         clear c7
         obtain rfl := Option.some.inj H
         have p6 : 0 ≤ (x3_1 : Int) := of_decide_eq_true z7_2_
         have q6 : x3_1 < (a0.size : Int) := of_decide_eq_true z7_2_
         have hx6 := bt_at a0 x3_1
         replace p6 := eq_true p6
         replace q6 := eq_true q6
         go_wp2
         go_ret
         exact ⟨by first | rfl | (simp; done) | (simp [*]; done), by repeat (first | exact Drawn0.refl _ | apply Drawn0.step)⟩
       rw [if_neg c7] at H
       have c7b0 : decide ((bt a0 x3_1) < 48) = false := decide_eq_false c7
       clear c7
       by_cases c9 : (bt a0 x3_1) > 57
       · rw [if_pos c9] at H
         have c9b0 : decide (57 < (bt a0 x3_1)) = true := decide_eq_true c9
         clear c9
         obtain rfl := Option.some.inj H
         have p6 : 0 ≤ (x3_1 : Int) := of_decide_eq_true z7_2_
         have q6 : x3_1 < (a0.size : Int) := of_decide_eq_true z7_2_
         have hx6 := bt_at a0 x3_1
         replace p6 := eq_true p6
         replace q6 := eq_true q6
         have p8 : 0 ≤ (x3_1 : Int) := of_decide_eq_true z7_2_
         have q8 : x3_1 < (a0.size : Int) := of_decide_eq_true z7_2_
         have hx8 := bt_at a0 x3_1
         replace p8 := eq_true p8
         replace q8 := eq_true q8
         go_wp2
         go_ret
         exact ⟨by first | rfl | (simp; done) | (simp [*]; done), by repeat (first | exact Drawn0.refl _ | apply Drawn0.step)⟩
       rw [if_neg c9] at H
       have c9b0 : decide (57 < (bt a0 x3_1)) = false := decide_eq_false c9
       clear c9
       have H' := Aside0.mk H
       clear H
       have p6 : 0 ≤ (x3_1 : Int) := of_decide_eq_true z7_2_
       have q6 : x3_1 < (a0.size : Int) := of_decide_eq_true z7_2_
       have hx6 := bt_at a0 x3_1
       replace p6 := eq_true p6
       replace q6 := eq_true q6
       have p8 : 0 ≤ (x3_1 : Int) := of_decide_eq_true z7_2_
       have q8 : x3_1 < (a0.size : Int) := of_decide_eq_true z7_2_
       have hx8 := bt_at a0 x3_1
       replace p8 := eq_true p8
       replace q8 := eq_true q8
       go_wp2
       go_roundg k1
       case measure => have := HK1.out; omega
       case rel => exact ⟨(wrap64 (x3_1 + 1)), (by first | rfl | (simp; done) | (simp [*]; done)), H', ⟨by have := HK1.out; omega⟩, by repeat (first | exact Drawn0.refl _ | apply Drawn0.step)⟩
     rw [if_neg c4] at H
     have c4b0 : decide (x3_1 < (a0.size : Int)) = false := decide_eq_false c4
     clear c4
     obtain rfl := Option.some.inj H
     go_wp2
     go_ret
     exact ⟨by first | rfl | (simp; done) | (simp [*]; done), by repeat (first | exact Drawn0.refl _ | apply Drawn0.step)⟩
 replace c3 := Bool.eq_false_iff.mpr c3
 subst c3
 rw [if_neg (show ¬ (false = true) by decide)] at H
 obtain rfl := Option.some.inj H
 go_enter Tryd.func51, Tryd.ntmps51
 go_wp2_with (first | ((with_reducible refine gate_callee (f := 41) rfl ?_); refine goesL_ (some 6) rfl rfl Tryd.func41 (by kernel_rfl) rfl #[.int .i64 (a0.size : Int)] rfl z7_0_ ?_; (with_reducible refine (spec_tkSize.calls (a0.size : Int) false _ A2.out).mono ?_); rintro e w' ⟨rfl, ⟨nd, rfl⟩⟩; refine ⟨_, rfl, ?_⟩))
 go_ret
 exact ⟨by first | rfl | (simp; done) | (simp [*]; done), by repeat (first | exact Drawn0.refl _ | apply Drawn0.step)⟩

/-! ### spec_tkRank: function 53 -/
-- behind 42
def spec_tkRank.l1 : Nat → ByteArray → Int → Int → Int → Option Int
 | 0, _, _, _, _ => none
 | k + 1, s, rank, i, d => if 0 ≤ i then (if i < (s.size : Int) then (if d < (bt s i) then (if (s.extract 0 i.toNat).size + (Utf8.encode (wrap32 d)).size ≤ 9223372036854775807 then ((spec_tkFrom.f k (s.size : Int) ((s.extract 0 i.toNat) ++ (Utf8.encode (wrap32 d)))).bind fun t => (spec_tkRank.l1 k s (wrap64 (rank + t)) i ((d + 1) % 256))) else none) else some rank) else none) else none
def spec_tkRank.l0 : Nat → ByteArray → Int → Nat → Option Int
 | 0, _, _, _ => none
 | k + 1, s, rank, i => if i < s.size then (if bt s (i : Int) < 128 then ((spec_tkRank.l1 k s rank (i : Int) 48).bind fun r => (spec_tkRank.l0 k s r (i + 1))) else none) else some rank
def spec_tkRank.f (k : Nat) (a0 : ByteArray) : Option (Int) := spec_tkRank.l0 k a0 0 0
theorem spec_tkRank.mono_1 : ∀ k s rank i d, LeO (spec_tkRank.l1 k s rank i d) (spec_tkRank.l1 (k + 1) s rank i d)
 | 0 => fun _ _ _ _ r h => by simp [spec_tkRank.l1] at h
 | k + 1 => fun s rank i d => by
  have ih := spec_tkRank.mono_1 k
  unfold spec_tkRank.l1
  exact LeO.ite (LeO.ite (LeO.ite (LeO.ite (LeO.bind (spec_tkFrom.mono _ _ _) (fun _ => ih _ _ _ _)) (LeO.none _)) (LeO.refl _)) (LeO.none _)) (LeO.none _)
theorem spec_tkRank.mono_0 : ∀ k s rank i, LeO (spec_tkRank.l0 k s rank i) (spec_tkRank.l0 (k + 1) s rank i)
 | 0 => fun _ _ _ r h => by simp [spec_tkRank.l0] at h
 | k + 1 => fun s rank i => by
  have ih := spec_tkRank.mono_0 k
  unfold spec_tkRank.l0
  exact LeO.ite (LeO.ite (LeO.bind (spec_tkRank.mono_1 _ _ _ _ _) (fun _ => ih _ _ _)) (LeO.none _)) (LeO.refl _)
theorem spec_tkRank.mono : ∀ a0 k, LeO (spec_tkRank.f k a0) (spec_tkRank.f (k + 1) a0) := fun a0 k => spec_tkRank.mono_0 k a0 0 0
theorem spec_tkRank.iter_below {w w' : World} {g : Nat} {s : ByteArray} {p : Nat} (hk : w.heap[g]? = some (.stringIter s p)) (h : Below w.heap.size w w') : w'.heap[g]? = some (.stringIter s p) := by
 have hlt : g < w.heap.size := (Array.getElem?_eq_some_iff.1 hk).1
 rw [h.block g hlt]; exact hk
theorem spec_tkRank.byte (s : ByteArray) (i : Nat) (h : i < s.size) : bt s (i : Int) = ((s[i]'h).toNat : Int) := by
 unfold bt
 rw [dif_pos (by rw [Int.toNat_natCast]; exact h)]
 simp only [Int.toNat_natCast]
set_option maxHeartbeats 8000000 in
set_option maxRecDepth 100000 in
theorem spec_tkRank.calls (k : Nat) (a0 : ByteArray) (r : Int) (w : World) (h : spec_tkRank.f k a0 = some r) :
 Calls Tryd.prog 53 #[.string a0] w fun e w' => e = .returned (.int .i64 r) ∧ Below w.heap.size w w' := by
 have H' : Aside0 (spec_tkRank.l0 k a0 0 0 = some r) := ⟨h⟩
 have HB0 := Aside0.mk (below_alloc (Below.refl w.heap.size w) (.stringIter a0 0))
 clear h
 go_enter Tryd.func53, Tryd.ntmps53
 go_wp2
 go_loopg [3] k (fun kq v3 w' => ∃ (x3 : Int) (i : Nat), v3 = .int .i64 x3 ∧ Aside0 (spec_tkRank.l0 kq a0 x3 i = some r) ∧ Aside0 (w'.heap[w.heap.size]? = some (.stringIter a0 i)) ∧ Aside0 (Below w.heap.size w w'))
 case atStart => exact ⟨0, 0, rfl, H', ⟨World.iter_heap w a0 0⟩, HB0⟩
 case round =>
  clear H' HB0
  obtain ⟨x3, i, rfl, HA, HI, HB⟩ := hrel
  cases gk with
  | zero => exact absurd HA.out (by simp [spec_tkRank.l0])
  | succ k1 =>
   have H := HA.out
   clear HA
   simp only [spec_tkRank.l0] at H
   by_cases c : i < a0.size
   · rw [if_pos c] at H
     by_cases ca : bt a0 (i : Int) < 128
     rotate_left
     · exact none_ (if_neg ca) H
     rw [if_pos ca] at H
     obtain ⟨x4, hx, H⟩ := Option.bind_eq_some_iff.mp H
     have HX := Aside0.mk hx
     have HN := Aside0.mk H
     have ha : (a0[i]'c).toNat < 128 := by rw [spec_tkRank.byte a0 i c] at ca; omega
     have hnx := fun ty => Lib.run_next_ascii_at (P := Tryd.prog) wr w.heap.size a0 i ty HI.out c ha
     have HB1 := Aside0.mk (Lib.below_iterAt HB.out (Nat.le_refl _) a0 (i + 1))
     have HI1 := Aside0.mk (Lib.iterAt_heap wr w.heap.size a0 i (i + 1) HI.out)
     clear hx H ca HB HI
     generalize wr.iterAt w.heap.size a0 (i + 1) = w1 at hnx HB1 HI1
     go_wp2
     clear hnx
     go_loopg [3, 5] k1 (fun kq v3 v5 w' => ∃ (x d : Int), v3 = .int .i64 x ∧ v5 = .int .u8 d ∧ Aside0 (spec_tkRank.l1 kq a0 x (i : Int) d = some x4) ∧ Aside0 (w'.heap[w.heap.size]? = some (.stringIter a0 (i + 1))) ∧ Aside0 (Below w.heap.size w w'))
     case atStart => exact ⟨x3, 48, rfl, rfl, HX, HI1, HB1⟩
     case round =>
      clear HX HI1 HB1
      obtain ⟨x, d, rfl, rfl, HA, HI, HB⟩ := hrel
      cases gk with
      | zero => exact absurd HA.out (by simp [spec_tkRank.l1])
      | succ k2 =>
       have H := HA.out
       clear HA
       simp only [spec_tkRank.l1] at H
       have p5 : 0 ≤ (i : Int) := by omega
       have q5 : (i : Int) < (a0.size : Int) := by omega
       have c8 : (i : Int) ≤ (a0.size : Int) := by omega
       rw [if_pos p5, if_pos q5] at H
       have hx5 := bt_at a0 (i : Int)
       replace p5 := eq_true p5
       replace q5 := eq_true q5
       have c8b0 := eq_true c8
       have c8b1 : decide ((i : Int) ≤ (a0.size : Int)) = true := decide_eq_true c8
       clear c8
       by_cases c6 : d < (bt a0 (i : Int))
       · rw [if_pos c6] at H
         have c6b0 : decide (d < (bt a0 (i : Int))) = true := decide_eq_true c6
         have c6b1 : decide (d < ((a0[i]'c).toNat : Int)) = true := by rw [← spec_tkRank.byte a0 i c]; exact c6b0
         clear c6
         by_cases c9 : (a0.extract 0 (i : Int).toNat).size + (Utf8.encode (wrap32 d)).size ≤ 9223372036854775807
         rotate_left
         · exact none_ (if_neg c9) H
         rw [if_pos c9] at H
         have c9b0 := eq_true c9
         have c9b1 : decide ((a0.extract 0 (i : Int).toNat).size + (Utf8.encode (wrap32 d)).size ≤ 9223372036854775807) = true := decide_eq_true c9
         have c9b2 : (9223372036854775807 < (a0.extract 0 (i : Int).toNat).size + (Utf8.encode (wrap32 d)).size) = False := eq_false (Nat.not_lt.2 c9)
         have c9b3 : (9223372036854775807 < min i a0.size + (Utf8.encode (wrap32 d)).size) = False := eq_false (Nat.not_lt.2 (by have h_ := c9; rw [ByteArray.size_extract] at h_; omega))
         clear c9
         obtain ⟨t, ht, H⟩ := Option.bind_eq_some_iff.mp H
         rw [Int.toNat_natCast] at ht
         have A10 := Aside0.mk ht
         have H' := Aside0.mk H
         clear ht H
         go_wp2_with (first | (go_at_call 42; (with_reducible refine (spec_tkFrom.calls k2 (a0.size : Int) ((a0.extract 0 i) ++ (Utf8.encode (wrap32 d))) t _ A10.out).mono ?_); rintro e w' ⟨rfl, hb⟩; have n0_ := Aside0.mk (spec_tkRank.iter_below HI.out hb); have n1_ := Aside0.mk (below_step HB.out hb); clear HI HB; have HI := n0_; have HB := n1_; clear n0_ n1_ hb))
         go_roundg k2
         case measure => omega
         case rel => exact ⟨_, _, rfl, rfl, H', HI, HB⟩
       rw [if_neg c6] at H
       have c6b0 : decide (d < (bt a0 (i : Int))) = false := decide_eq_false c6
       have c6b1 : decide (d < ((a0[i]'c).toNat : Int)) = false := by rw [← spec_tkRank.byte a0 i c]; exact c6b0
       clear c6
       obtain rfl := Option.some.inj H
       go_wp2
       go_roundg k1
       case measure => omega
       case rel => exact ⟨_, _, rfl, HN, HI, HB⟩
   rw [if_neg c] at H
   have hnx := fun ty => Lib.run_next_end_at (P := Tryd.prog) wr w.heap.size a0 i ty HI.out c
   obtain rfl := Option.some.inj H
   clear H c
   go_wp2
   go_ret
   exact ⟨rfl, HB.out⟩

/-! ### spec_tkHalves: function 70 -/
def spec_tkHalves.f (k : Nat) (a0 : ByteArray) : Option (Int × Int) := if 0 ≤ (wrap64 ((a0.size : Int) / 2)) then (if (wrap64 ((a0.size : Int) / 2)) ≤ (a0.size : Int) then ((spec_tkSum.f k (a0.extract 0 ((wrap64 ((a0.size : Int) / 2)) : Int).toNat)).bind fun t303 => ((spec_tkSum.f k (a0.extract ((wrap64 ((a0.size : Int) / 2)) : Int).toNat a0.size)).bind fun t304 => (some (t303, t304)))) else (none)) else (none)
theorem spec_tkHalves.mono : ∀ a0 k, LeO (spec_tkHalves.f k a0) (spec_tkHalves.f (k + 1) a0) := by
 intro a0 k
 unfold spec_tkHalves.f
 repeat' first
  | (with_reducible exact spec_tkSum.mono _ _)
  | (with_reducible exact LeO.refl _)
  | (with_reducible exact LeO.none _)
  | (with_reducible refine LeO.ite ?_ ?_)
  | (with_reducible refine LeO.bind ?_ (fun _ => ?_))
  | exact spec_tkSum.mono _ _
  | exact LeO.none _
  | refine LeO.ite ?_ ?_
  | refine LeO.bind ?_ (fun _ => ?_)
set_option maxHeartbeats 8000000 in
set_option maxRecDepth 100000 in
theorem spec_tkHalves.calls (k : Nat) (a0 : ByteArray) (r1 : Int) (r2 : Int) (w : World) (h : spec_tkHalves.f k a0 = some (r1, r2)) :
 Calls Tryd.prog 70 #[.string a0] w fun e w' => e = .returned (.tuple #[.int .i64 r1, .int .i64 r2]) ∧ Drawn0 w w' := by
 have H : (if 0 ≤ (wrap64 ((a0.size : Int) / 2)) then (if (wrap64 ((a0.size : Int) / 2)) ≤ (a0.size : Int) then ((spec_tkSum.f k (a0.extract 0 ((wrap64 ((a0.size : Int) / 2)) : Int).toNat)).bind fun t303 => ((spec_tkSum.f k (a0.extract ((wrap64 ((a0.size : Int) / 2)) : Int).toNat a0.size)).bind fun t304 => (some (t303, t304)))) else (none)) else (none)) = some (r1, r2) := h
 clear h
 obtain ⟨ji2, hji2⟩ : ∃ j_ : Int, (wrap64 ((a0.size : Int) / 2)) = j_ := ⟨_, rfl⟩
 replace H : (if 0 ≤ (ji2) then (if (ji2) ≤ (a0.size : Int) then ((spec_tkSum.f k (a0.extract 0 ((ji2) : Int).toNat)).bind fun t303 => ((spec_tkSum.f k (a0.extract ((ji2) : Int).toNat a0.size)).bind fun t304 => (some (t303, t304)))) else (none)) else (none)) = some (r1, r2) := by first | (rw [hji2] at H; exact H) | (simp only [hji2] at H ⊢; exact H)
 have hji2w : (IntKind.i64.wrap ((a0.size : Int) / 2)) = ji2 := (i64_w _).trans hji2
 by_cases c3 : 0 ≤ (ji2)
 rotate_left
 · exact none_ (if_neg c3) H
 rw [if_pos c3] at H
 have c3b0 := eq_true c3
 have c3b1 : decide (0 ≤ (ji2)) = true := decide_eq_true c3
 clear c3
 by_cases c4 : (ji2) ≤ (a0.size : Int)
 rotate_left
 · exact none_ (if_neg c4) H
 rw [if_pos c4] at H
 have c4b0 := eq_true c4
 have c4b1 : decide ((ji2) ≤ (a0.size : Int)) = true := decide_eq_true c4
 clear c4
 replace H := Option.bind_eq_some_iff.mp H
 obtain ⟨t303, A50, H⟩ := H
 have A5 := Aside0.mk A50
 clear A50
 have c6b0 := eq_true (of_decide_eq_true z7_2_ : 0 ≤ (ji2))
 have c7b0 := eq_true (of_decide_eq_true z7_2_ : (ji2) ≤ (a0.size : Int))
 replace H := Option.bind_eq_some_iff.mp H
 obtain ⟨t304, A80, H⟩ := H
 have A8 := Aside0.mk A80
 clear A80
 simp only [Option.some.injEq, Prod.mk.injEq] at H
 obtain ⟨rfl, rfl⟩ := H
 go_enter Tryd.func70, Tryd.ntmps70
 go_wp2_with (first | (go_at_call 67; (with_reducible refine (spec_tkSum.calls k (a0.extract 0 ((ji2) : Int).toNat) t303 _ A5.out).mono ?_); rintro e w' ⟨rfl, ⟨nd, rfl⟩⟩; (try first | exact ⟨rfl, _, World.drewN_drewN _ _ _⟩ | exact ⟨rfl, _, Eq.trans (World.drewN_drewN _ _ _) (congrArg (World.drewN _) (Nat.add_assoc _ _ _))⟩)) | (go_at_call 67; (with_reducible refine (spec_tkSum.calls k (a0.extract ((ji2) : Int).toNat a0.size) t304 _ A8.out).mono ?_); rintro e w' ⟨rfl, ⟨nd, rfl⟩⟩; (try first | exact ⟨rfl, _, World.drewN_drewN _ _ _⟩ | exact ⟨rfl, _, Eq.trans (World.drewN_drewN _ _ _) (congrArg (World.drewN _) (Nat.add_assoc _ _ _))⟩)))
 repeat (go_quiet (first | (go_at_call 67; (with_reducible refine (spec_tkSum.calls k (a0.extract 0 ((ji2) : Int).toNat) t303 _ A5.out).mono ?_); rintro e w' ⟨rfl, ⟨nd, rfl⟩⟩; (try first | exact ⟨rfl, _, World.drewN_drewN _ _ _⟩ | exact ⟨rfl, _, Eq.trans (World.drewN_drewN _ _ _) (congrArg (World.drewN _) (Nat.add_assoc _ _ _))⟩)) | (go_at_call 67; (with_reducible refine (spec_tkSum.calls k (a0.extract ((ji2) : Int).toNat a0.size) t304 _ A8.out).mono ?_); rintro e w' ⟨rfl, ⟨nd, rfl⟩⟩; (try first | exact ⟨rfl, _, World.drewN_drewN _ _ _⟩ | exact ⟨rfl, _, Eq.trans (World.drewN_drewN _ _ _) (congrArg (World.drewN _) (Nat.add_assoc _ _ _))⟩))); try go_wp2_with (first | (go_at_call 67; (with_reducible refine (spec_tkSum.calls k (a0.extract 0 ((ji2) : Int).toNat) t303 _ A5.out).mono ?_); rintro e w' ⟨rfl, ⟨nd, rfl⟩⟩; (try first | exact ⟨rfl, _, World.drewN_drewN _ _ _⟩ | exact ⟨rfl, _, Eq.trans (World.drewN_drewN _ _ _) (congrArg (World.drewN _) (Nat.add_assoc _ _ _))⟩)) | (go_at_call 67; (with_reducible refine (spec_tkSum.calls k (a0.extract ((ji2) : Int).toNat a0.size) t304 _ A8.out).mono ?_); rintro e w' ⟨rfl, ⟨nd, rfl⟩⟩; (try first | exact ⟨rfl, _, World.drewN_drewN _ _ _⟩ | exact ⟨rfl, _, Eq.trans (World.drewN_drewN _ _ _) (congrArg (World.drewN _) (Nat.add_assoc _ _ _))⟩))))
 go_ret2
 exact ⟨by first | rfl | (simp; done) | (simp only [← hji2] <;> (first | rfl | simp)) | (simp [*]; done), by repeat (first | exact Drawn0.refl _ | apply Drawn0.step)⟩

/-! ### spec_tkLucky: function 56 -/
def spec_tkLucky.f (k : Nat) (a0 : ByteArray) : Option (Bool) := (spec_tkHalves.f k a0).bind fun bt305 => (some (bt305.1 == bt305.2))
theorem spec_tkLucky.mono : ∀ a0 k, LeO (spec_tkLucky.f k a0) (spec_tkLucky.f (k + 1) a0) := by
 intro a0 k
 unfold spec_tkLucky.f
 repeat' first
  | (with_reducible exact spec_tkHalves.mono _ _)
  | (with_reducible exact LeO.refl _)
  | (with_reducible exact LeO.none _)
  | (with_reducible refine LeO.ite ?_ ?_)
  | (with_reducible refine LeO.bind ?_ (fun _ => ?_))
  | exact spec_tkHalves.mono _ _
  | exact LeO.none _
  | refine LeO.ite ?_ ?_
  | refine LeO.bind ?_ (fun _ => ?_)
set_option maxHeartbeats 8000000 in
set_option maxRecDepth 100000 in
theorem spec_tkLucky.calls (k : Nat) (a0 : ByteArray) (r : Bool) (w : World) (h : spec_tkLucky.f k a0 = some r) :
 Calls Tryd.prog 56 #[.string a0] w fun e w' => e = .returned (.bool r) ∧ Drawn0 w w' := by
 have H : ((spec_tkHalves.f k a0).bind fun bt305 => (some (bt305.1 == bt305.2))) = some r := h
 clear h
 replace H := Option.bind_eq_some_iff.mp H
 obtain ⟨⟨t305, t306⟩, A20, H⟩ := H
 dsimp only at H
 have A2 := Aside0.mk A20
 clear A20
 obtain rfl := Option.some.inj H
 go_enter Tryd.func56, Tryd.ntmps56
 go_wp2_with (first | ((with_reducible refine gate_callee (f := 70) rfl ?_); refine goesL_ (some 7) rfl rfl Tryd.func70 (by kernel_rfl) rfl #[.string a0] rfl z7_0_ ?_; (with_reducible refine (spec_tkHalves.calls k a0 t305 t306 _ A2.out).mono ?_); rintro e w' ⟨rfl, ⟨nd, rfl⟩⟩; refine ⟨_, rfl, ?_⟩))
 go_ret
 exact ⟨by first | rfl | (simp; done) | (simp [*]; done), by repeat (first | exact Drawn0.refl _ | apply Drawn0.step)⟩

/-! ### spec_tkNext: function 52 -/
def spec_tkNext.j0 : Nat → ByteArray → Int → Option (ByteArray × Bool)
 | 0, _, _ => none
 | k + 1, x0, x6 => if x6 < 0 then (some ((⟨#[]⟩ : ByteArray), false)) else ((spec_tkFrom.f k (x0.size : Int) (⟨#[]⟩ : ByteArray)).bind fun t309 => (if x6 ≥ t309 then (some ((⟨#[]⟩ : ByteArray), false)) else ((spec_tkRanked.f k (x0.size : Int) x6).bind fun t310 => (some (t310, true)))))
def spec_tkNext.f (k : Nat) (a0 : ByteArray) (a1 : Bool) : Option (ByteArray × Bool) := (spec_tkRank.f k a0).bind fun t307 => (if a1 = true then ((spec_tkLucky.f k a0).bind fun t308 => (if t308 = true then (spec_tkNext.j0 k a0 (wrap64 ((wrap64 ((wrap64 (t307 - 1)) + 1)) + 1))) else (spec_tkNext.j0 k a0 (wrap64 ((wrap64 (t307 - 1)) + 1))))) else (spec_tkNext.j0 k a0 (wrap64 (t307 - 1))))
theorem spec_tkNext.mono_l : ∀ k, (∀ y0 y1, LeO (spec_tkNext.j0 k y0 y1) (spec_tkNext.j0 (k + 1) y0 y1))
 | 0 => fun _ _ r h => by simp [spec_tkNext.j0] at h
 | k + 1 => by
  have ih0 := spec_tkNext.mono_l k
  intro y0 y1
  unfold spec_tkNext.j0
  repeat' first
  | (with_reducible exact ih0 _ _)
  | (with_reducible exact spec_tkFrom.mono _ _ _)
  | (with_reducible exact spec_tkLucky.mono _ _)
  | (with_reducible exact spec_tkRank.mono _ _)
  | (with_reducible exact spec_tkRanked.mono _ _ _)
  | (with_reducible exact LeO.refl _)
  | (with_reducible exact LeO.none _)
  | (with_reducible refine LeO.ite ?_ ?_)
  | (with_reducible refine LeO.bind ?_ (fun _ => ?_))
  | exact ih0 _ _
  | exact spec_tkFrom.mono _ _ _
  | exact spec_tkLucky.mono _ _
  | exact spec_tkRank.mono _ _
  | exact spec_tkRanked.mono _ _ _
  | exact LeO.none _
  | refine LeO.ite ?_ ?_
  | refine LeO.bind ?_ (fun _ => ?_)
theorem spec_tkNext.mono : ∀ a0 a1 k, LeO (spec_tkNext.f k a0 a1) (spec_tkNext.f (k + 1) a0 a1) := by
 intro a0 a1 k
 have ih0 := spec_tkNext.mono_l k
 unfold spec_tkNext.f
 repeat' first
  | (with_reducible exact ih0 _ _)
  | (with_reducible exact spec_tkFrom.mono _ _ _)
  | (with_reducible exact spec_tkLucky.mono _ _)
  | (with_reducible exact spec_tkRank.mono _ _)
  | (with_reducible exact spec_tkRanked.mono _ _ _)
  | (with_reducible exact LeO.refl _)
  | (with_reducible exact LeO.none _)
  | (with_reducible refine LeO.ite ?_ ?_)
  | (with_reducible refine LeO.bind ?_ (fun _ => ?_))
  | exact ih0 _ _
  | exact spec_tkFrom.mono _ _ _
  | exact spec_tkLucky.mono _ _
  | exact spec_tkRank.mono _ _
  | exact spec_tkRanked.mono _ _ _
  | exact LeO.none _
  | refine LeO.ite ?_ ?_
  | refine LeO.bind ?_ (fun _ => ?_)
set_option maxHeartbeats 8000000 in
set_option maxRecDepth 100000 in
theorem spec_tkNext.calls (k : Nat) (a0 : ByteArray) (a1 : Bool) (r1 : ByteArray) (r2 : Bool) (w : World) (h : spec_tkNext.f k a0 a1 = some (r1, r2)) :
 Calls Tryd.prog 52 #[.string a0, .bool a1] w fun e w' => e = .returned (.tuple #[.string r1, .bool r2]) ∧ Below w.heap.size w w' := by
 have HB := Aside0.mk (Below.refl w.heap.size w)
 have H : ((spec_tkRank.f k a0).bind fun t307 => (if a1 = true then ((spec_tkLucky.f k a0).bind fun t308 => (if t308 = true then (spec_tkNext.j0 k a0 (wrap64 ((wrap64 ((wrap64 (t307 - 1)) + 1)) + 1))) else (spec_tkNext.j0 k a0 (wrap64 ((wrap64 (t307 - 1)) + 1))))) else (spec_tkNext.j0 k a0 (wrap64 (t307 - 1))))) = some (r1, r2) := h
 clear h
 replace H := Option.bind_eq_some_iff.mp H
 obtain ⟨t307, A30, H⟩ := H
 have A3 := Aside0.mk A30
 clear A30
 have HC4 := Aside0.mk H
 clear H
 go_enter Tryd.func52, Tryd.ntmps52
 go_upto_if 10 with (first | ((with_reducible refine gate_callee (f := 53) rfl ?_); refine goesL_ (some 8) rfl rfl Tryd.func53 (by kernel_rfl) rfl #[.string a0] rfl z7_0_ ?_; (with_reducible refine (spec_tkRank.calls k a0 t307 _ A3.out).mono ?_); rintro e w5 ⟨rfl, hb⟩; refine ⟨_, rfl, ?_⟩; have n0_ := Aside0.mk (below_step z7_1_ hb); clear HB; have HB := n0_; clear n0_; (try clear hb); (try clear hb2); (try clear hk); (try clear hi)))
 (try simp only [Act.put, List.setIfInBounds_toArray, List.set_cons_zero, List.set_cons_succ])
 go_cut [6] (fun v6 wc => ∃ (kq : Nat) (x6_3 : Int), v6 = .int .i64 x6_3 ∧ Aside0 (spec_tkNext.j0 kq a0 x6_3 = some (r1, r2)) ∧ Aside0 (kq ≤ k) ∧ Aside0 (Below w.heap.size w wc))
 case first =>
  have H := HC4.out
  clear HC4
  by_cases c6 : a1 = true
  · subst c6
    have H1 : ((spec_tkLucky.f k a0).bind fun t308 => (if t308 = true then (spec_tkNext.j0 k a0 (wrap64 ((wrap64 ((wrap64 (t307 - 1)) + 1)) + 1))) else (spec_tkNext.j0 k a0 (wrap64 ((wrap64 (t307 - 1)) + 1))))) = some (r1, r2) := by rw [if_pos rfl] at H; exact H
    clear H
    have H := H1
    clear H1
    replace H := Option.bind_eq_some_iff.mp H
    obtain ⟨t308, A70, H⟩ := H
    have A7 := Aside0.mk A70
    clear A70
    by_cases c8 : t308 = true
    · subst c8
      have H1 : (spec_tkNext.j0 k a0 (wrap64 ((wrap64 ((wrap64 (t307 - 1)) + 1)) + 1))) = some (r1, r2) := by rw [if_pos rfl] at H; exact H
      clear H
      have H := H1
      clear H1
      have H' := Aside0.mk H
      clear H
      go_wp2_with (first | ((with_reducible refine gate_callee (f := 56) rfl ?_); refine goesL_ (some 14) rfl rfl Tryd.func56 (by kernel_rfl) rfl #[.string a0] rfl z7_0_ ?_; (with_reducible refine (spec_tkLucky.calls k a0 true _ A7.out).mono ?_); rintro e w' ⟨rfl, ⟨nd, rfl⟩⟩; refine ⟨_, rfl, ?_⟩))
      go_meet
      case rel => exact ⟨_, (wrap64 ((wrap64 ((wrap64 (t307 - 1)) + 1)) + 1)), (by first | rfl | (simp; done) | (simp [*]; done)), H', ⟨by first | omega | exact Nat.le_refl _⟩, ⟨by repeat (first | (with_reducible first | exact HB.out | apply below_alloc | apply pw_below_drewN | apply below_drew1) | exact HB.out)⟩⟩
    replace c8 := Bool.eq_false_iff.mpr c8
    subst c8
    have H1 : (spec_tkNext.j0 k a0 (wrap64 ((wrap64 (t307 - 1)) + 1))) = some (r1, r2) := by rw [if_neg (show ¬ (false = true) by decide)] at H; exact H
    clear H
    have H := H1
    clear H1
    have H' := Aside0.mk H
    clear H
    go_wp2_with (first | ((with_reducible refine gate_callee (f := 56) rfl ?_); refine goesL_ (some 14) rfl rfl Tryd.func56 (by kernel_rfl) rfl #[.string a0] rfl z7_0_ ?_; (with_reducible refine (spec_tkLucky.calls k a0 false _ A7.out).mono ?_); rintro e w' ⟨rfl, ⟨nd, rfl⟩⟩; refine ⟨_, rfl, ?_⟩))
    go_meet
    case rel => exact ⟨_, (wrap64 ((wrap64 (t307 - 1)) + 1)), (by first | rfl | (simp; done) | (simp [*]; done)), H', ⟨by first | omega | exact Nat.le_refl _⟩, ⟨by repeat (first | (with_reducible first | exact HB.out | apply below_alloc | apply pw_below_drewN | apply below_drew1) | exact HB.out)⟩⟩
  replace c6 := Bool.eq_false_iff.mpr c6
  subst c6
  have H1 : (spec_tkNext.j0 k a0 (wrap64 (t307 - 1))) = some (r1, r2) := by rw [if_neg (show ¬ (false = true) by decide)] at H; exact H
  clear H
  have H := H1
  clear H1
  have H' := Aside0.mk H
  clear H
  go_wp2
  go_meet
  case rel => exact ⟨_, (wrap64 (t307 - 1)), (by first | rfl | (simp; done) | (simp [*]; done)), H', ⟨by first | omega | exact Nat.le_refl _⟩, ⟨by repeat (first | (with_reducible first | exact HB.out | apply below_alloc | apply pw_below_drewN | apply below_drew1) | exact HB.out)⟩⟩
 case rest =>
  clear HC4
  (try clear p2);(try clear c5);(try clear c6);(try clear p6);(try clear c8)
  obtain ⟨kq, x6_3, rfl, HA, HJ3, HB⟩ := hcut
  cases kq with
  | zero => exact absurd HA.out (by simp [spec_tkNext.j0])
  | succ kj3 =>
   have H := HA.out
   clear HA
   simp only [spec_tkNext.j0] at H
   by_cases c9 : x6_3 < 0
   · rw [if_pos c9] at H
     have c9b0 : decide (x6_3 < 0) = true := decide_eq_true c9
     clear c9
     simp only [Option.some.injEq, Prod.mk.injEq] at H
     obtain ⟨rfl, rfl⟩ := H
     go_wp2
     go_ret2
     exact ⟨by first | rfl | (simp [errW_none, errW_some] <;> rfl) | (simp [*, errW_none, errW_some] <;> rfl), by repeat (first | (with_reducible first | exact HB.out | apply below_alloc | apply pw_below_drewN | apply below_drew1) | exact HB.out)⟩
   rw [if_neg c9] at H
   have c9b0 : decide (x6_3 < 0) = false := decide_eq_false c9
   clear c9
   replace H := Option.bind_eq_some_iff.mp H
   obtain ⟨t309, A100, H⟩ := H
   have A10 := Aside0.mk A100
   clear A100
   by_cases c11 : x6_3 ≥ t309
   · rw [if_pos c11] at H
     have c11b0 : decide (t309 ≤ x6_3) = true := decide_eq_true c11
     clear c11
     simp only [Option.some.injEq, Prod.mk.injEq] at H
     obtain ⟨rfl, rfl⟩ := H
     go_wp2_with (first | (go_at_call 42; (with_reducible refine (spec_tkFrom.calls kj3 (a0.size : Int) (⟨#[]⟩ : ByteArray) t309 _ A10.out).mono ?_); rintro e w12 ⟨rfl, hb⟩; have n0_ := Aside0.mk (below_step z7_1_ hb); clear HB; have HB := n0_; clear n0_; (try clear hb); (try clear hb2); (try clear hk); (try clear hi)))
     go_ret2
     exact ⟨by first | rfl | (simp [errW_none, errW_some] <;> rfl) | (simp [*, errW_none, errW_some] <;> rfl), by repeat (first | (with_reducible first | exact HB.out | apply below_alloc | apply pw_below_drewN | apply below_drew1) | exact HB.out)⟩
   rw [if_neg c11] at H
   have c11b0 : decide (t309 ≤ x6_3) = false := decide_eq_false c11
   clear c11
   replace H := Option.bind_eq_some_iff.mp H
   obtain ⟨t310, A130, H⟩ := H
   have A13 := Aside0.mk A130
   clear A130
   simp only [Option.some.injEq, Prod.mk.injEq] at H
   obtain ⟨rfl, rfl⟩ := H
   go_wp2_with (first | (go_at_call 42; (with_reducible refine (spec_tkFrom.calls kj3 (a0.size : Int) (⟨#[]⟩ : ByteArray) t309 _ A10.out).mono ?_); rintro e w14 ⟨rfl, hb⟩; have n0_ := Aside0.mk (below_step z7_1_ hb); clear HB; have HB := n0_; clear n0_; (try clear hb); (try clear hb2); (try clear hk); (try clear hi)) | ((with_reducible refine gate_callee (f := 43) rfl ?_); refine goesL_ (some 29) rfl rfl Tryd.func43 (by kernel_rfl) rfl #[.int .i64 (a0.size : Int), .int .i64 x6_3] rfl z7_0_ ?_; (with_reducible refine (spec_tkRanked.calls kj3 (a0.size : Int) x6_3 t310 _ A13.out).mono ?_); rintro e w15 ⟨rfl, hb⟩; refine ⟨_, rfl, ?_⟩; have n0_ := Aside0.mk (below_step z7_1_ hb); clear HB; have HB := n0_; clear n0_; (try clear hb); (try clear hb2); (try clear hk); (try clear hi)))
   go_ret2
   exact ⟨by first | rfl | (simp [errW_none, errW_some] <;> rfl) | (simp [*, errW_none, errW_some] <;> rfl), by repeat (first | (with_reducible first | exact HB.out | apply below_alloc | apply pw_below_drewN | apply below_drew1) | exact HB.out)⟩

/-! ### spec_NextLucky: function 20 -/
def spec_NextLucky.f (k : Nat) (a0 : ByteArray) : Option (ByteArray × Bool) := (spec_tkGood.f k a0).bind fun t311 => (if t311 = true then ((spec_tkNext.f k a0 true).bind fun bt312 => (some (bt312.1, bt312.2))) else (some ((⟨#[]⟩ : ByteArray), false)))
theorem spec_NextLucky.mono : ∀ a0 k, LeO (spec_NextLucky.f k a0) (spec_NextLucky.f (k + 1) a0) := by
 intro a0 k
 unfold spec_NextLucky.f
 repeat' first
  | (with_reducible exact spec_tkGood.mono _ _)
  | (with_reducible exact spec_tkNext.mono _ _ _)
  | (with_reducible exact LeO.refl _)
  | (with_reducible exact LeO.none _)
  | (with_reducible refine LeO.ite ?_ ?_)
  | (with_reducible refine LeO.bind ?_ (fun _ => ?_))
  | exact spec_tkGood.mono _ _
  | exact spec_tkNext.mono _ _ _
  | exact LeO.none _
  | refine LeO.ite ?_ ?_
  | refine LeO.bind ?_ (fun _ => ?_)
set_option maxHeartbeats 8000000 in
set_option maxRecDepth 100000 in
theorem spec_NextLucky.calls (k : Nat) (a0 : ByteArray) (r1 : ByteArray) (r2 : Bool) (w : World) (h : spec_NextLucky.f k a0 = some (r1, r2)) :
 Calls Tryd.prog 20 #[.string a0] w fun e w' => e = .returned (.tuple #[.string r1, .bool r2]) ∧ Below w.heap.size w w' := by
 have HB := Aside0.mk (Below.refl w.heap.size w)
 have H : ((spec_tkGood.f k a0).bind fun t311 => (if t311 = true then ((spec_tkNext.f k a0 true).bind fun bt312 => (some (bt312.1, bt312.2))) else (some ((⟨#[]⟩ : ByteArray), false)))) = some (r1, r2) := h
 clear h
 replace H := Option.bind_eq_some_iff.mp H
 obtain ⟨t311, A20, H⟩ := H
 have A2 := Aside0.mk A20
 clear A20
 by_cases c3 : t311 = true
 · subst c3
   have H1 : ((spec_tkNext.f k a0 true).bind fun bt312 => (some (bt312.1, bt312.2))) = some (r1, r2) := by rw [if_pos rfl] at H; exact H
   clear H
   have H := H1
   clear H1
   replace H := Option.bind_eq_some_iff.mp H
   obtain ⟨⟨t312, t313⟩, A40, H⟩ := H
   dsimp only at H
   have A4 := Aside0.mk A40
   clear A40
   simp only [Option.some.injEq, Prod.mk.injEq] at H
   obtain ⟨rfl, rfl⟩ := H
   go_enter Tryd.func20, Tryd.ntmps20
   go_wp2_with (first | ((with_reducible refine gate_callee (f := 51) rfl ?_); refine goesL_ (some 5) rfl rfl Tryd.func51 (by kernel_rfl) rfl #[.string a0] rfl z7_0_ ?_; (with_reducible refine (spec_tkGood.calls k a0 true _ A2.out).mono ?_); rintro e w' ⟨rfl, ⟨nd, rfl⟩⟩; refine ⟨_, rfl, ?_⟩) | ((with_reducible refine gate_callee (f := 52) rfl ?_); refine goesL_ (some 8) rfl rfl Tryd.func52 (by kernel_rfl) rfl #[.string a0, .bool true] rfl z7_0_ ?_; (with_reducible refine (spec_tkNext.calls k a0 true t312 t313 _ A4.out).mono ?_); rintro e w5 ⟨rfl, hb⟩; refine ⟨_, rfl, ?_⟩; have n0_ := Aside0.mk (below_step z7_1_ hb); clear HB; have HB := n0_; clear n0_; (try clear hb); (try clear hb2); (try clear hk); (try clear hi)))
   go_ret2
   exact ⟨by first | rfl | (simp [errW_none, errW_some] <;> rfl) | (simp [*, errW_none, errW_some] <;> rfl), by repeat (first | (with_reducible first | exact HB.out | apply below_alloc | apply pw_below_drewN | apply below_drew1) | exact HB.out)⟩
 replace c3 := Bool.eq_false_iff.mpr c3
 subst c3
 have H1 : (some ((⟨#[]⟩ : ByteArray), false)) = some (r1, r2) := by rw [if_neg (show ¬ (false = true) by decide)] at H; exact H
 clear H
 have H := H1
 clear H1
 simp only [Option.some.injEq, Prod.mk.injEq] at H
 obtain ⟨rfl, rfl⟩ := H
 go_enter Tryd.func20, Tryd.ntmps20
 go_wp2_with (first | ((with_reducible refine gate_callee (f := 51) rfl ?_); refine goesL_ (some 5) rfl rfl Tryd.func51 (by kernel_rfl) rfl #[.string a0] rfl z7_0_ ?_; (with_reducible refine (spec_tkGood.calls k a0 false _ A2.out).mono ?_); rintro e w' ⟨rfl, ⟨nd, rfl⟩⟩; refine ⟨_, rfl, ?_⟩))
 go_ret2
 exact ⟨by first | rfl | (simp [errW_none, errW_some] <;> rfl) | (simp [*, errW_none, errW_some] <;> rfl), by repeat (first | (with_reducible first | exact HB.out | apply below_alloc | apply pw_below_drewN | apply below_drew1) | exact HB.out)⟩

/-! ### impl_LastLucky: function 21 -/
def impl_LastLucky.f (k : Nat) (a0 : ByteArray) : Option (ByteArray × Bool) := (impl_IsTicket.f k a0).bind fun t314 => (if t314 = true then ((impl_rankOfLucky.f k a0).bind fun t315 => ((impl_LuckyOfRank.f k (a0.size : Int) (wrap64 (t315 - 1))).bind fun bt316 => (some (bt316.1, bt316.2)))) else (some ((⟨#[]⟩ : ByteArray), false)))
theorem impl_LastLucky.mono : ∀ a0 k, LeO (impl_LastLucky.f k a0) (impl_LastLucky.f (k + 1) a0) := by
 intro a0 k
 unfold impl_LastLucky.f
 repeat' first
  | (with_reducible exact impl_IsTicket.mono _ _)
  | (with_reducible exact impl_LuckyOfRank.mono _ _ _)
  | (with_reducible exact impl_rankOfLucky.mono _ _)
  | (with_reducible exact LeO.refl _)
  | (with_reducible exact LeO.none _)
  | (with_reducible refine LeO.ite ?_ ?_)
  | (with_reducible refine LeO.bind ?_ (fun _ => ?_))
  | exact impl_IsTicket.mono _ _
  | exact impl_LuckyOfRank.mono _ _ _
  | exact impl_rankOfLucky.mono _ _
  | exact LeO.none _
  | refine LeO.ite ?_ ?_
  | refine LeO.bind ?_ (fun _ => ?_)
set_option maxHeartbeats 8000000 in
set_option maxRecDepth 100000 in
theorem impl_LastLucky.calls (k : Nat) (a0 : ByteArray) (r1 : ByteArray) (r2 : Bool) (w : World) (h : impl_LastLucky.f k a0 = some (r1, r2)) :
 Calls Tryd.prog 21 #[.string a0] w fun e w' => e = .returned (.tuple #[.string r1, .bool r2]) ∧ Below w.heap.size w w' := by
 have HB := Aside0.mk (Below.refl w.heap.size w)
 have H : ((impl_IsTicket.f k a0).bind fun t314 => (if t314 = true then ((impl_rankOfLucky.f k a0).bind fun t315 => ((impl_LuckyOfRank.f k (a0.size : Int) (wrap64 (t315 - 1))).bind fun bt316 => (some (bt316.1, bt316.2)))) else (some ((⟨#[]⟩ : ByteArray), false)))) = some (r1, r2) := h
 clear h
 replace H := Option.bind_eq_some_iff.mp H
 obtain ⟨t314, A20, H⟩ := H
 have A2 := Aside0.mk A20
 clear A20
 by_cases c3 : t314 = true
 · subst c3
   have H1 : ((impl_rankOfLucky.f k a0).bind fun t315 => ((impl_LuckyOfRank.f k (a0.size : Int) (wrap64 (t315 - 1))).bind fun bt316 => (some (bt316.1, bt316.2)))) = some (r1, r2) := by rw [if_pos rfl] at H; exact H
   clear H
   have H := H1
   clear H1
   replace H := Option.bind_eq_some_iff.mp H
   obtain ⟨t315, A40, H⟩ := H
   have A4 := Aside0.mk A40
   clear A40
   replace H := Option.bind_eq_some_iff.mp H
   obtain ⟨⟨t316, t317⟩, A50, H⟩ := H
   dsimp only at H
   have A5 := Aside0.mk A50
   clear A50
   simp only [Option.some.injEq, Prod.mk.injEq] at H
   obtain ⟨rfl, rfl⟩ := H
   go_enter Tryd.func21, Tryd.ntmps21
   go_wp2_with (first | ((with_reducible refine gate_callee (f := 29) rfl ?_); refine goesL_ (some 5) rfl rfl Tryd.func29 (by kernel_rfl) rfl #[.string a0] rfl z7_0_ ?_; (with_reducible refine (impl_IsTicket.calls k a0 true _ A2.out).mono ?_); rintro e w' ⟨rfl, ⟨nd, rfl⟩⟩; refine ⟨_, rfl, ?_⟩) | ((with_reducible refine gate_callee (f := 48) rfl ?_); refine goesL_ (some 10) rfl rfl Tryd.func48 (by kernel_rfl) rfl #[.string a0] rfl z7_0_ ?_; (with_reducible refine (impl_rankOfLucky.calls k a0 t315 _ A4.out).mono ?_); rintro e w6 ⟨rfl, hb⟩; refine ⟨_, rfl, ?_⟩; have n0_ := Aside0.mk (below_step z7_1_ hb); clear HB; have HB := n0_; clear n0_; (try clear hb); (try clear hb2); (try clear hk); (try clear hi)) | ((with_reducible refine gate_callee (f := 6) rfl ?_); refine goesL_ (some 12) rfl rfl Tryd.func6 (by kernel_rfl) rfl #[.int .i64 (a0.size : Int), .int .i64 (wrap64 (t315 - 1))] rfl z7_0_ ?_; (with_reducible refine (impl_LuckyOfRank.calls k (a0.size : Int) (wrap64 (t315 - 1)) t316 t317 _ A5.out).mono ?_); rintro e w7 ⟨rfl, hb⟩; refine ⟨_, rfl, ?_⟩; have n0_ := Aside0.mk (below_step z7_1_ hb); clear HB; have HB := n0_; clear n0_; (try clear hb); (try clear hb2); (try clear hk); (try clear hi)))
   go_ret2
   exact ⟨by first | rfl | (simp [errW_none, errW_some] <;> rfl) | (simp [*, errW_none, errW_some] <;> rfl), by repeat (first | (with_reducible first | exact HB.out | apply below_alloc | apply pw_below_drewN | apply below_drew1) | exact HB.out)⟩
 replace c3 := Bool.eq_false_iff.mpr c3
 subst c3
 have H1 : (some ((⟨#[]⟩ : ByteArray), false)) = some (r1, r2) := by rw [if_neg (show ¬ (false = true) by decide)] at H; exact H
 clear H
 have H := H1
 clear H1
 simp only [Option.some.injEq, Prod.mk.injEq] at H
 obtain ⟨rfl, rfl⟩ := H
 go_enter Tryd.func21, Tryd.ntmps21
 go_wp2_with (first | ((with_reducible refine gate_callee (f := 29) rfl ?_); refine goesL_ (some 5) rfl rfl Tryd.func29 (by kernel_rfl) rfl #[.string a0] rfl z7_0_ ?_; (with_reducible refine (impl_IsTicket.calls k a0 false _ A2.out).mono ?_); rintro e w' ⟨rfl, ⟨nd, rfl⟩⟩; refine ⟨_, rfl, ?_⟩))
 go_ret2
 exact ⟨by first | rfl | (simp [errW_none, errW_some] <;> rfl) | (simp [*, errW_none, errW_some] <;> rfl), by repeat (first | (with_reducible first | exact HB.out | apply below_alloc | apply pw_below_drewN | apply below_drew1) | exact HB.out)⟩

/-! ### spec_LastLucky: function 22 -/
def spec_LastLucky.f (k : Nat) (a0 : ByteArray) : Option (ByteArray × Bool) := (spec_tkGood.f k a0).bind fun t318 => (if t318 = true then ((spec_tkNext.f k a0 false).bind fun bt319 => (some (bt319.1, bt319.2))) else (some ((⟨#[]⟩ : ByteArray), false)))
theorem spec_LastLucky.mono : ∀ a0 k, LeO (spec_LastLucky.f k a0) (spec_LastLucky.f (k + 1) a0) := by
 intro a0 k
 unfold spec_LastLucky.f
 repeat' first
  | (with_reducible exact spec_tkGood.mono _ _)
  | (with_reducible exact spec_tkNext.mono _ _ _)
  | (with_reducible exact LeO.refl _)
  | (with_reducible exact LeO.none _)
  | (with_reducible refine LeO.ite ?_ ?_)
  | (with_reducible refine LeO.bind ?_ (fun _ => ?_))
  | exact spec_tkGood.mono _ _
  | exact spec_tkNext.mono _ _ _
  | exact LeO.none _
  | refine LeO.ite ?_ ?_
  | refine LeO.bind ?_ (fun _ => ?_)
set_option maxHeartbeats 8000000 in
set_option maxRecDepth 100000 in
theorem spec_LastLucky.calls (k : Nat) (a0 : ByteArray) (r1 : ByteArray) (r2 : Bool) (w : World) (h : spec_LastLucky.f k a0 = some (r1, r2)) :
 Calls Tryd.prog 22 #[.string a0] w fun e w' => e = .returned (.tuple #[.string r1, .bool r2]) ∧ Below w.heap.size w w' := by
 have HB := Aside0.mk (Below.refl w.heap.size w)
 have H : ((spec_tkGood.f k a0).bind fun t318 => (if t318 = true then ((spec_tkNext.f k a0 false).bind fun bt319 => (some (bt319.1, bt319.2))) else (some ((⟨#[]⟩ : ByteArray), false)))) = some (r1, r2) := h
 clear h
 replace H := Option.bind_eq_some_iff.mp H
 obtain ⟨t318, A20, H⟩ := H
 have A2 := Aside0.mk A20
 clear A20
 by_cases c3 : t318 = true
 · subst c3
   have H1 : ((spec_tkNext.f k a0 false).bind fun bt319 => (some (bt319.1, bt319.2))) = some (r1, r2) := by rw [if_pos rfl] at H; exact H
   clear H
   have H := H1
   clear H1
   replace H := Option.bind_eq_some_iff.mp H
   obtain ⟨⟨t319, t320⟩, A40, H⟩ := H
   dsimp only at H
   have A4 := Aside0.mk A40
   clear A40
   simp only [Option.some.injEq, Prod.mk.injEq] at H
   obtain ⟨rfl, rfl⟩ := H
   go_enter Tryd.func22, Tryd.ntmps22
   go_wp2_with (first | ((with_reducible refine gate_callee (f := 51) rfl ?_); refine goesL_ (some 5) rfl rfl Tryd.func51 (by kernel_rfl) rfl #[.string a0] rfl z7_0_ ?_; (with_reducible refine (spec_tkGood.calls k a0 true _ A2.out).mono ?_); rintro e w' ⟨rfl, ⟨nd, rfl⟩⟩; refine ⟨_, rfl, ?_⟩) | ((with_reducible refine gate_callee (f := 52) rfl ?_); refine goesL_ (some 8) rfl rfl Tryd.func52 (by kernel_rfl) rfl #[.string a0, .bool false] rfl z7_0_ ?_; (with_reducible refine (spec_tkNext.calls k a0 false t319 t320 _ A4.out).mono ?_); rintro e w5 ⟨rfl, hb⟩; refine ⟨_, rfl, ?_⟩; have n0_ := Aside0.mk (below_step z7_1_ hb); clear HB; have HB := n0_; clear n0_; (try clear hb); (try clear hb2); (try clear hk); (try clear hi)))
   go_ret2
   exact ⟨by first | rfl | (simp [errW_none, errW_some] <;> rfl) | (simp [*, errW_none, errW_some] <;> rfl), by repeat (first | (with_reducible first | exact HB.out | apply below_alloc | apply pw_below_drewN | apply below_drew1) | exact HB.out)⟩
 replace c3 := Bool.eq_false_iff.mpr c3
 subst c3
 have H1 : (some ((⟨#[]⟩ : ByteArray), false)) = some (r1, r2) := by rw [if_neg (show ¬ (false = true) by decide)] at H; exact H
 clear H
 have H := H1
 clear H1
 simp only [Option.some.injEq, Prod.mk.injEq] at H
 obtain ⟨rfl, rfl⟩ := H
 go_enter Tryd.func22, Tryd.ntmps22
 go_wp2_with (first | ((with_reducible refine gate_callee (f := 51) rfl ?_); refine goesL_ (some 5) rfl rfl Tryd.func51 (by kernel_rfl) rfl #[.string a0] rfl z7_0_ ?_; (with_reducible refine (spec_tkGood.calls k a0 false _ A2.out).mono ?_); rintro e w' ⟨rfl, ⟨nd, rfl⟩⟩; refine ⟨_, rfl, ?_⟩))
 go_ret2
 exact ⟨by first | rfl | (simp [errW_none, errW_some] <;> rfl) | (simp [*, errW_none, errW_some] <;> rfl), by repeat (first | (with_reducible first | exact HB.out | apply below_alloc | apply pw_below_drewN | apply below_drew1) | exact HB.out)⟩

end Go.Proofs.YtlgpjilhjfkmbaaDoor.PFnTicketsRanked
